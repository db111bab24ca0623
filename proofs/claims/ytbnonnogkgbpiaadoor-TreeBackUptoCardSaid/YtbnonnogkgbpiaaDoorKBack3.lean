/- What the row of this claim leans on, part 3. -/
import Derived.Test.YtbnonnogkgbpiaaDoorKBack2
section
namespace Go.Proofs.YtbnonnogkgbpiaaDoor.PT
open Go.RowKit Go.Proofs.YtbnonnogkgbpiaaDoorW.PrintWords Go.Proofs.YtbnonnogkgbpiaaDoorW.PrintLast Go.Proofs.YtbnonnogkgbpiaaDoorW.PrintMore
attribute [local go_sem] max2_int min2_int max_two min_two max_three min_three max_four min_four   -- for this text's walks alone
set_option linter.unusedVariables false
set_option linter.unusedSimpArgs false
mutual
def vivariumlaw11_alike.j0 : Nat → Bool → Int → Int → List (S49) → Int → Int → Int → List (S49) → Int → Option (Bool)
  | 0, _, _, _, _, _, _, _, _, _ => none
  | k + 1, x36, x232000, x232001, x232002, x232003, x233000, x233001, x233002, x233003 => if x36 = true then (some false) else (vivariumlaw11_alike.l0 k 0 x232000 x232001 x232002 x232003 x233000 x233001 x233002 x233003)
def vivariumlaw11_alike.l0 : Nat → Int → Int → Int → List (S49) → Int → Int → Int → List (S49) → Int → Option (Bool)
  | 0, _, _, _, _, _, _, _, _, _ => none
  | k + 1, x5, x232000, x232001, x232002, x232003, x233000, x233001, x233002, x233003 => if x5 < (x232002.length : Int) then (if 0 ≤ x5 then (if x5 < (x233002.length : Int) then (if ((rd_T49 x232002 x5).f0) = ((rd_T49 x233002 x5).f0) then (vivariumlaw11_alike.j2 k x5 ((((rd_T49 x232002 x5).f1).length : Int) != (((rd_T49 x233002 x5).f1).length : Int)) x232000 x232001 x232002 x232003 x233000 x233001 x233002 x233003 ((rd_T49 x232002 x5).f0) ((rd_T49 x232002 x5).f1) ((rd_T49 x233002 x5).f0) ((rd_T49 x233002 x5).f1)) else (vivariumlaw11_alike.j2 k x5 true x232000 x232001 x232002 x232003 x233000 x233001 x233002 x233003 ((rd_T49 x232002 x5).f0) ((rd_T49 x232002 x5).f1) ((rd_T49 x233002 x5).f0) ((rd_T49 x233002 x5).f1))) else (none)) else (none)) else (some true)
def vivariumlaw11_alike.j2 : Nat → Int → Bool → Int → Int → List (S49) → Int → Int → Int → List (S49) → Int → Int → List Int → Int → List Int → Option (Bool)
  | 0, _, _, _, _, _, _, _, _, _, _, _, _, _, _ => none
  | k + 1, x5, x67, x232000, x232001, x232002, x232003, x233000, x233001, x233002, x233003, x236000, x236001, x237000, x237001 => if x67 = true then (some false) else (vivariumlaw11_alike.l1 k x5 0 x232000 x232001 x232002 x232003 x233000 x233001 x233002 x233003 x236000 x236001 x237000 x237001)
def vivariumlaw11_alike.l1 : Nat → Int → Int → Int → Int → List (S49) → Int → Int → Int → List (S49) → Int → Int → List Int → Int → List Int → Option (Bool)
  | 0, _, _, _, _, _, _, _, _, _, _, _, _, _, _ => none
  | k + 1, x5, x8, x232000, x232001, x232002, x232003, x233000, x233001, x233002, x233003, x236000, x236001, x237000, x237001 => if x8 < (x236001.length : Int) then (if 0 ≤ x8 then (if x8 < (x237001.length : Int) then (if (rd x236001 x8) = (rd x237001 x8) then (vivariumlaw11_alike.l1 k x5 (wrap64 (x8 + 1)) x232000 x232001 x232002 x232003 x233000 x233001 x233002 x233003 x236000 x236001 x237000 x237001) else (some false)) else (none)) else (none)) else (vivariumlaw11_alike.l0 k (wrap64 (x5 + 1)) x232000 x232001 x232002 x232003 x233000 x233001 x233002 x233003)
end
def vivariumlaw11_alike.f (k : Nat) (a0_0 : Int) (a0_1 : Int) (l0_2 : List (S49)) (a0_3 : Int) (a1_0 : Int) (a1_1 : Int) (l1_2 : List (S49)) (a1_3 : Int) : Option (Bool) := if a0_0 = a1_0 then (if a0_1 = a1_1 then (if a0_3 = a1_3 then (vivariumlaw11_alike.j0 k ((l0_2.length : Int) != (l1_2.length : Int)) a0_0 a0_1 l0_2 a0_3 a1_0 a1_1 l1_2 a1_3) else (vivariumlaw11_alike.j0 k true a0_0 a0_1 l0_2 a0_3 a1_0 a1_1 l1_2 a1_3)) else (vivariumlaw11_alike.j0 k true a0_0 a0_1 l0_2 a0_3 a1_0 a1_1 l1_2 a1_3)) else (vivariumlaw11_alike.j0 k true a0_0 a0_1 l0_2 a0_3 a1_0 a1_1 l1_2 a1_3)
def vivariumlaw11_alike.T6 : Bool × List (List Nat × List Nat) := (true, [([], []), ([0], [0]), ([], []), ([1, 2], [1, 2]), ([3], [3]), ([], []), ([5], [5]), ([], []), ([6, 7], [6, 7]), ([8], [8]), ([], []), ([], []), ([10, 4, 0, 1, 2, 3, 4, 10, 11], [4, 10]), ([11, 9, 12, 0, 1, 2, 3, 4, 5, 6, 7, 8, 9, 10, 11, 12], [9, 11])])
def vivariumlaw11_alike.B6 : List Nat := [0, 1, 0, 7, 15, 0, 32, 0, 224, 480, 0, 0, 3103, 8191]
theorem vivariumlaw11_alike.tab6 : rtab .any (opsOf Tryd.f19 6) = vivariumlaw11_alike.T6 := by kernel_rfl
theorem vivariumlaw11_alike.bits6 : waitsOk vivariumlaw11_alike.T6.2 vivariumlaw11_alike.B6 = true := by kernel_rfl
def vivariumlaw11_alike.T12 : Bool × List (List Nat × List Nat) := (true, [([], []), ([0], [0]), ([], []), ([1, 2], [1, 2]), ([3], [3]), ([], []), ([5], [5]), ([], []), ([6, 7], [6, 7]), ([8], [8]), ([4, 9], [4, 9])])
def vivariumlaw11_alike.B12 : List Nat := [0, 1, 0, 7, 15, 0, 32, 0, 224, 480, 1023]
theorem vivariumlaw11_alike.tab12 : rtab .any (opsOf Tryd.f19 12) = vivariumlaw11_alike.T12 := by kernel_rfl
theorem vivariumlaw11_alike.bits12 : waitsOk vivariumlaw11_alike.T12.2 vivariumlaw11_alike.B12 = true := by kernel_rfl
set_option maxHeartbeats 8000000 in
set_option maxRecDepth 100000 in
theorem vivariumlaw11_alike.calls (k : Nat) (a0_0 : Int) (a0_1 : Int) (A0_2 : Option Addr) (c0_2 : Nat) (l0_2 : List (S49)) (a0_3 : Int) (a1_0 : Int) (a1_1 : Int) (A1_2 : Option Addr) (c1_2 : Nat) (l1_2 : List (S49)) (a1_3 : Int) (r : Bool) (w : World) (hr0_2 : Kd.C k49 w A0_2 l0_2.length l0_2) (hc0_2 : l0_2.length ≤ c0_2) (hr1_2 : Kd.C k49 w A1_2 l1_2.length l1_2) (hc1_2 : l1_2.length ≤ c1_2) (h : vivariumlaw11_alike.f k a0_0 a0_1 l0_2 a0_3 a1_0 a1_1 l1_2 a1_3 = some r) :
    Calls Tryd.prog 19 #[.agg #[.int .i64 a0_0, .int .i64 a0_1, .slice A0_2 l0_2.length c0_2, .int .i64 a0_3], .agg #[.int .i64 a1_0, .int .i64 a1_1, .slice A1_2 l1_2.length c1_2, .int .i64 a1_3]] w fun e w' => e = .returned (.bool r) ∧ Below w.heap.size w w' := by
  have hu24 := Tryd.underlying24
  have hu49 := Tryd.underlying49
  have HR0_2 := Aside0.mk hr0_2
  have HC0_2 := Aside0.mk hc0_2
  clear hr0_2 hc0_2
  have HR1_2 := Aside0.mk hr1_2
  have HC1_2 := Aside0.mk hc1_2
  clear hr1_2 hc1_2
  have HB := Aside0.mk (Below.refl w.heap.size w)
  have H : (if a0_0 = a1_0 then (if a0_1 = a1_1 then (if a0_3 = a1_3 then (vivariumlaw11_alike.j0 k ((l0_2.length : Int) != (l1_2.length : Int)) a0_0 a0_1 l0_2 a0_3 a1_0 a1_1 l1_2 a1_3) else (vivariumlaw11_alike.j0 k true a0_0 a0_1 l0_2 a0_3 a1_0 a1_1 l1_2 a1_3)) else (vivariumlaw11_alike.j0 k true a0_0 a0_1 l0_2 a0_3 a1_0 a1_1 l1_2 a1_3)) else (vivariumlaw11_alike.j0 k true a0_0 a0_1 l0_2 a0_3 a1_0 a1_1 l1_2 a1_3)) = some r := h
  clear h
  have HC3 := Aside0.mk H
  clear H
  go_enter Tryd.func19, Tryd.ntmps19
  go_upto_region 1 with (first | ((with_reducible refine gate_dst (N := 2) rfl ?_); (try (refine gate_guard (by rfl) ?_; dsimp only)); refine box_event ?hg (N := 2) ?hd (cs := #[.int .i64 a0_0, .int .i64 a0_1, .slice A0_2 l0_2.length c0_2, .int .i64 a0_3]) (t := 24) ?hr ?_; (case hd => rfl); (case hg => rfl); (case hr => first | (go_simp; done) | (go_simp; rfl)); intro gb231 hg w4 hbox hb; have n0_ := Aside0.mk (below_step (by repeat (first | (with_reducible first | exact HB.out | apply below_alloc | apply pw_below_drewN | apply below_drew1) | exact HB.out)) hb); have n1_ := Aside0.mk (hbox); have n2_ := Aside0.mk ((by rw [hg]; exact (below_size (by repeat (first | (with_reducible first | exact HB.out | apply below_alloc | apply pw_below_drewN | apply below_drew1) | exact HB.out))) : w.heap.size ≤ gb231)); have n3_ := Aside0.mk ((by rw [hg]; exact (below_size (by repeat (first | (with_reducible first | exact HB.out | apply below_alloc | apply pw_below_drewN | apply below_drew1) | exact HB.out))) : w.heap.size ≤ gb231)); clear HB; have HB := n0_; have BK231 := n1_; have GW231 := n2_; have GE231 := n3_; clear n0_ n1_ n2_ n3_; clear hb hbox hg) | ((with_reducible refine gate_dst (N := 3) rfl ?_); (try (refine gate_guard (by rfl) ?_; dsimp only)); refine box_event ?hg (N := 3) ?hd (cs := #[.int .i64 a1_0, .int .i64 a1_1, .slice A1_2 l1_2.length c1_2, .int .i64 a1_3]) (t := 24) ?hr ?_; (case hd => rfl); (case hg => rfl); (case hr => first | (go_simp; done) | (go_simp; rfl)); intro gb232 hg w5 hbox hb; have n0_ := Aside0.mk (blk_below (g := gb231) (o := .cells #[.int .i64 a0_0, .int .i64 a0_1, .slice A0_2 l0_2.length c0_2, .int .i64 a0_3] 24 (0, 0)) (by (with_reducible repeat (first | refine blk_drewN ?_ _ | refine blk_drew ?_ | refine blk_alloc ?_ _)); exact BK231.out) hb); have n1_ := Aside0.mk (below_step (by repeat (first | (with_reducible first | exact HB.out | apply below_alloc | apply pw_below_drewN | apply below_drew1 | refine below_set ?_ GE231.out) | exact HB.out)) hb); have n2_ := Aside0.mk (hbox); have n3_ := Aside0.mk ((by rw [hg]; exact (below_size (by repeat (first | (with_reducible first | exact HB.out | apply below_alloc | apply pw_below_drewN | apply below_drew1 | refine below_set ?_ GE231.out) | exact HB.out))) : w.heap.size ≤ gb232)); have n4_ := Aside0.mk ((by rw [hg]; exact (below_size (by repeat (first | (with_reducible first | exact HB.out | apply below_alloc | apply pw_below_drewN | apply below_drew1 | refine below_set ?_ GE231.out) | exact HB.out))) : w.heap.size ≤ gb232)); have n5_ := Aside0.mk ((by rw [hg]; exact Nat.ne_of_lt (blk_lt (g := gb231) (o := .cells #[.int .i64 a0_0, .int .i64 a0_1, .slice A0_2 l0_2.length c0_2, .int .i64 a0_3] 24 (0, 0)) (by (with_reducible repeat (first | refine blk_drewN ?_ _ | refine blk_drew ?_ | refine blk_alloc ?_ _)); exact BK231.out)) : gb231 ≠ gb232)); have n6_ := Aside0.mk ((by rw [hg]; exact Nat.ne_of_gt (blk_lt (g := gb231) (o := .cells #[.int .i64 a0_0, .int .i64 a0_1, .slice A0_2 l0_2.length c0_2, .int .i64 a0_3] 24 (0, 0)) (by (with_reducible repeat (first | refine blk_drewN ?_ _ | refine blk_drew ?_ | refine blk_alloc ?_ _)); exact BK231.out)) : gb232 ≠ gb231)); clear BK231; clear HB; have BK231 := n0_; have HB := n1_; have BK232 := n2_; have GW232 := n3_; have GE232 := n4_; have NB231_232 := n5_; have NB232_231 := n6_; clear n0_ n1_ n2_ n3_ n4_ n5_ n6_; clear hb hbox hg))
  (try simp only [Act.put, List.setIfInBounds_toArray, List.set_cons_zero, List.set_cons_succ])
  go_cut [36] (fun v36 wc => ∃ (kq : Nat) (x36_2 : Bool), v36 = .bool x36_2 ∧ Aside0 (vivariumlaw11_alike.j0 kq x36_2 a0_0 a0_1 l0_2 a0_3 a1_0 a1_1 l1_2 a1_3 = some r) ∧ Aside0 (kq ≤ k) ∧ Aside0 (wc.heap[gb231]? = some (.cells #[.int .i64 a0_0, .int .i64 a0_1, (.slice A0_2 l0_2.length c0_2), .int .i64 a0_3] 24 (0, 0))) ∧ Aside0 (wc.heap[gb232]? = some (.cells #[.int .i64 a1_0, .int .i64 a1_1, (.slice A1_2 l1_2.length c1_2), .int .i64 a1_3] 24 (0, 0))) ∧ Aside0 (Below w.heap.size w wc))
  case first =>
    have H := HC3.out
    clear HC3
    by_cases c6 : a0_0 = a1_0
    · rw [if_pos c6] at H
      have c6b0 : (a0_0 == a1_0) = true := beq_iff_eq.mpr c6
      have c6b1 : (a0_0 != a1_0) = false := bne_eq_false_iff_eq.mpr c6
      clear c6
      (first | rw [c6b0] | (simp only [i64_w, i32_w]; rw [c6b0]) | skip)
      by_cases c7 : a0_1 = a1_1
      · rw [if_pos c7] at H
        have c7b0 : (a0_1 == a1_1) = true := beq_iff_eq.mpr c7
        have c7b1 : (a0_1 != a1_1) = false := bne_eq_false_iff_eq.mpr c7
        clear c7
        by_cases c8 : a0_3 = a1_3
        · rw [if_pos c8] at H
          have c8b0 : (a0_3 == a1_3) = true := beq_iff_eq.mpr c8
          have c8b1 : (a0_3 != a1_3) = false := bne_eq_false_iff_eq.mpr c8
          clear c8
          have H' := Aside0.mk H
          clear H
          have hnb9 := NB231_232.out
          have hnc9 := NB232_231.out
          have hcz10_0 : w5.cell? ⟨gb231, 0, none⟩ = some (.int .i64 a0_0) := (blk_cell BK231.out 0).trans rfl
          have hcz10_1 : w5.cell? ⟨gb231, 1, none⟩ = some (.int .i64 a0_1) := (blk_cell BK231.out 1).trans rfl
          have hcz10_2 : w5.cell? ⟨gb231, 2, none⟩ = some (.slice A0_2 l0_2.length c0_2) := (blk_cell BK231.out 2).trans rfl
          have hcz10_3 : w5.cell? ⟨gb231, 3, none⟩ = some (.int .i64 a0_3) := (blk_cell BK231.out 3).trans rfl
          have hfz10_0 := blk_frozen BK231.out 0
          have hfz10_1 := blk_frozen BK231.out 1
          have hfz10_2 := blk_frozen BK231.out 2
          have hfz10_3 := blk_frozen BK231.out 3
          have hcz11_0 : w5.cell? ⟨gb232, 0, none⟩ = some (.int .i64 a1_0) := (blk_cell BK232.out 0).trans rfl
          have hcz11_1 : w5.cell? ⟨gb232, 1, none⟩ = some (.int .i64 a1_1) := (blk_cell BK232.out 1).trans rfl
          have hcz11_2 : w5.cell? ⟨gb232, 2, none⟩ = some (.slice A1_2 l1_2.length c1_2) := (blk_cell BK232.out 2).trans rfl
          have hcz11_3 : w5.cell? ⟨gb232, 3, none⟩ = some (.int .i64 a1_3) := (blk_cell BK232.out 3).trans rfl
          have hfz11_0 := blk_frozen BK232.out 0
          have hfz11_1 := blk_frozen BK232.out 1
          have hfz11_2 := blk_frozen BK232.out 2
          have hfz11_3 := blk_frozen BK232.out 3
          go_wp2
          go_meet
          case rel => exact ⟨_, (((l0_2.length : Int) != (l1_2.length : Int))), (by first | rfl | (simp; done) | (simp [*]; done) | (simp [wrap64]; done)), H', ⟨by first | omega | exact Nat.le_refl _⟩, ⟨by (with_reducible repeat (first | refine blk_drewN ?_ _ | refine blk_drew ?_ | refine blk_alloc ?_ _)); exact BK231.out⟩, ⟨by (with_reducible repeat (first | refine blk_drewN ?_ _ | refine blk_drew ?_ | refine blk_alloc ?_ _)); exact BK232.out⟩, ⟨by repeat (first | (with_reducible first | exact HB.out | apply below_alloc | apply pw_below_drewN | apply below_drew1 | refine below_set ?_ GE231.out | refine below_set ?_ GE232.out) | exact HB.out)⟩⟩
        · rw [if_neg c8] at H
          have c8b0 : (a0_3 == a1_3) = false := beq_eq_false_iff_ne.mpr c8
          have c8b1 : (a0_3 != a1_3) = true := bne_iff_ne.mpr c8
          have H' := Aside0.mk H
          clear H
          have hnb12 := NB231_232.out
          have hnc12 := NB232_231.out
          have hcz13_0 : w5.cell? ⟨gb231, 0, none⟩ = some (.int .i64 a0_0) := (blk_cell BK231.out 0).trans rfl
          have hcz13_1 : w5.cell? ⟨gb231, 1, none⟩ = some (.int .i64 a0_1) := (blk_cell BK231.out 1).trans rfl
          have hcz13_2 : w5.cell? ⟨gb231, 2, none⟩ = some (.slice A0_2 l0_2.length c0_2) := (blk_cell BK231.out 2).trans rfl
          have hcz13_3 : w5.cell? ⟨gb231, 3, none⟩ = some (.int .i64 a0_3) := (blk_cell BK231.out 3).trans rfl
          have hfz13_0 := blk_frozen BK231.out 0
          have hfz13_1 := blk_frozen BK231.out 1
          have hfz13_2 := blk_frozen BK231.out 2
          have hfz13_3 := blk_frozen BK231.out 3
          have hcz14_0 : w5.cell? ⟨gb232, 0, none⟩ = some (.int .i64 a1_0) := (blk_cell BK232.out 0).trans rfl
          have hcz14_1 : w5.cell? ⟨gb232, 1, none⟩ = some (.int .i64 a1_1) := (blk_cell BK232.out 1).trans rfl
          have hcz14_2 : w5.cell? ⟨gb232, 2, none⟩ = some (.slice A1_2 l1_2.length c1_2) := (blk_cell BK232.out 2).trans rfl
          have hcz14_3 : w5.cell? ⟨gb232, 3, none⟩ = some (.int .i64 a1_3) := (blk_cell BK232.out 3).trans rfl
          have hfz14_0 := blk_frozen BK232.out 0
          have hfz14_1 := blk_frozen BK232.out 1
          have hfz14_2 := blk_frozen BK232.out 2
          have hfz14_3 := blk_frozen BK232.out 3
          go_wp2
          go_meet
          case rel => exact ⟨_, (true), (by first | rfl | (simp; done) | (simp [*]; done) | (simp [wrap64]; done)), H', ⟨by first | omega | exact Nat.le_refl _⟩, ⟨by (with_reducible repeat (first | refine blk_drewN ?_ _ | refine blk_drew ?_ | refine blk_alloc ?_ _)); exact BK231.out⟩, ⟨by (with_reducible repeat (first | refine blk_drewN ?_ _ | refine blk_drew ?_ | refine blk_alloc ?_ _)); exact BK232.out⟩, ⟨by repeat (first | (with_reducible first | exact HB.out | apply below_alloc | apply pw_below_drewN | apply below_drew1 | refine below_set ?_ GE231.out | refine below_set ?_ GE232.out) | exact HB.out)⟩⟩
      · rw [if_neg c7] at H
        have c7b0 : (a0_1 == a1_1) = false := beq_eq_false_iff_ne.mpr c7
        have c7b1 : (a0_1 != a1_1) = true := bne_iff_ne.mpr c7
        have H' := Aside0.mk H
        clear H
        have hnb15 := NB231_232.out
        have hnc15 := NB232_231.out
        have hcz16_0 : w5.cell? ⟨gb231, 0, none⟩ = some (.int .i64 a0_0) := (blk_cell BK231.out 0).trans rfl
        have hcz16_1 : w5.cell? ⟨gb231, 1, none⟩ = some (.int .i64 a0_1) := (blk_cell BK231.out 1).trans rfl
        have hcz16_2 : w5.cell? ⟨gb231, 2, none⟩ = some (.slice A0_2 l0_2.length c0_2) := (blk_cell BK231.out 2).trans rfl
        have hcz16_3 : w5.cell? ⟨gb231, 3, none⟩ = some (.int .i64 a0_3) := (blk_cell BK231.out 3).trans rfl
        have hfz16_0 := blk_frozen BK231.out 0
        have hfz16_1 := blk_frozen BK231.out 1
        have hfz16_2 := blk_frozen BK231.out 2
        have hfz16_3 := blk_frozen BK231.out 3
        have hcz17_0 : w5.cell? ⟨gb232, 0, none⟩ = some (.int .i64 a1_0) := (blk_cell BK232.out 0).trans rfl
        have hcz17_1 : w5.cell? ⟨gb232, 1, none⟩ = some (.int .i64 a1_1) := (blk_cell BK232.out 1).trans rfl
        have hcz17_2 : w5.cell? ⟨gb232, 2, none⟩ = some (.slice A1_2 l1_2.length c1_2) := (blk_cell BK232.out 2).trans rfl
        have hcz17_3 : w5.cell? ⟨gb232, 3, none⟩ = some (.int .i64 a1_3) := (blk_cell BK232.out 3).trans rfl
        have hfz17_0 := blk_frozen BK232.out 0
        have hfz17_1 := blk_frozen BK232.out 1
        have hfz17_2 := blk_frozen BK232.out 2
        have hfz17_3 := blk_frozen BK232.out 3
        go_wp2
        go_meet
        case rel => exact ⟨_, (true), (by first | rfl | (simp; done) | (simp [*]; done) | (simp [wrap64]; done)), H', ⟨by first | omega | exact Nat.le_refl _⟩, ⟨by (with_reducible repeat (first | refine blk_drewN ?_ _ | refine blk_drew ?_ | refine blk_alloc ?_ _)); exact BK231.out⟩, ⟨by (with_reducible repeat (first | refine blk_drewN ?_ _ | refine blk_drew ?_ | refine blk_alloc ?_ _)); exact BK232.out⟩, ⟨by repeat (first | (with_reducible first | exact HB.out | apply below_alloc | apply pw_below_drewN | apply below_drew1 | refine below_set ?_ GE231.out | refine below_set ?_ GE232.out) | exact HB.out)⟩⟩
    · rw [if_neg c6] at H
      have c6b0 : (a0_0 == a1_0) = false := beq_eq_false_iff_ne.mpr c6
      have c6b1 : (a0_0 != a1_0) = true := bne_iff_ne.mpr c6
      (first | rw [c6b0] | (simp only [i64_w, i32_w]; rw [c6b0]) | skip)
      have H' := Aside0.mk H
      clear H
      have hnb18 := NB231_232.out
      have hnc18 := NB232_231.out
      have hcz19_0 : w5.cell? ⟨gb231, 0, none⟩ = some (.int .i64 a0_0) := (blk_cell BK231.out 0).trans rfl
      have hcz19_1 : w5.cell? ⟨gb231, 1, none⟩ = some (.int .i64 a0_1) := (blk_cell BK231.out 1).trans rfl
      have hcz19_2 : w5.cell? ⟨gb231, 2, none⟩ = some (.slice A0_2 l0_2.length c0_2) := (blk_cell BK231.out 2).trans rfl
      have hcz19_3 : w5.cell? ⟨gb231, 3, none⟩ = some (.int .i64 a0_3) := (blk_cell BK231.out 3).trans rfl
      have hfz19_0 := blk_frozen BK231.out 0
      have hfz19_1 := blk_frozen BK231.out 1
      have hfz19_2 := blk_frozen BK231.out 2
      have hfz19_3 := blk_frozen BK231.out 3
      have hcz20_0 : w5.cell? ⟨gb232, 0, none⟩ = some (.int .i64 a1_0) := (blk_cell BK232.out 0).trans rfl
      have hcz20_1 : w5.cell? ⟨gb232, 1, none⟩ = some (.int .i64 a1_1) := (blk_cell BK232.out 1).trans rfl
      have hcz20_2 : w5.cell? ⟨gb232, 2, none⟩ = some (.slice A1_2 l1_2.length c1_2) := (blk_cell BK232.out 2).trans rfl
      have hcz20_3 : w5.cell? ⟨gb232, 3, none⟩ = some (.int .i64 a1_3) := (blk_cell BK232.out 3).trans rfl
      have hfz20_0 := blk_frozen BK232.out 0
      have hfz20_1 := blk_frozen BK232.out 1
      have hfz20_2 := blk_frozen BK232.out 2
      have hfz20_3 := blk_frozen BK232.out 3
      go_wp2
      go_meet
      case rel => exact ⟨_, (true), (by first | rfl | (simp; done) | (simp [*]; done) | (simp [wrap64]; done)), H', ⟨by first | omega | exact Nat.le_refl _⟩, ⟨by (with_reducible repeat (first | refine blk_drewN ?_ _ | refine blk_drew ?_ | refine blk_alloc ?_ _)); exact BK231.out⟩, ⟨by (with_reducible repeat (first | refine blk_drewN ?_ _ | refine blk_drew ?_ | refine blk_alloc ?_ _)); exact BK232.out⟩, ⟨by repeat (first | (with_reducible first | exact HB.out | apply below_alloc | apply pw_below_drewN | apply below_drew1 | refine below_set ?_ GE231.out | refine below_set ?_ GE232.out) | exact HB.out)⟩⟩
  case rest =>
    clear HC3
    try clear c1
    try clear p2
    try clear c6
    try clear c6b0
    try clear c6b1
    try clear c7
    try clear c7b0
    try clear c7b1
    try clear c8
    try clear c8b0
    try clear c8b1
    try clear c9
    try clear c12
    try clear c15
    try clear c18
    try clear c19
    try clear hcz10_0
    try clear hcz10_1
    try clear hcz10_2
    try clear hcz10_3
    try clear hcz11_0
    try clear hcz11_1
    try clear hcz11_2
    try clear hcz11_3
    try clear hcz13_0
    try clear hcz13_1
    try clear hcz13_2
    try clear hcz13_3
    try clear hcz14_0
    try clear hcz14_1
    try clear hcz14_2
    try clear hcz14_3
    try clear hcz16_0
    try clear hcz16_1
    try clear hcz16_2
    try clear hcz16_3
    try clear hcz17_0
    try clear hcz17_1
    try clear hcz17_2
    try clear hcz17_3
    try clear hcz19_0
    try clear hcz19_1
    try clear hcz19_2
    try clear hcz19_3
    try clear hcz20_0
    try clear hcz20_1
    try clear hcz20_2
    try clear hcz20_3
    try clear hfz10_0
    try clear hfz10_1
    try clear hfz10_2
    try clear hfz10_3
    try clear hfz11_0
    try clear hfz11_1
    try clear hfz11_2
    try clear hfz11_3
    try clear hfz13_0
    try clear hfz13_1
    try clear hfz13_2
    try clear hfz13_3
    try clear hfz14_0
    try clear hfz14_1
    try clear hfz14_2
    try clear hfz14_3
    try clear hfz16_0
    try clear hfz16_1
    try clear hfz16_2
    try clear hfz16_3
    try clear hfz17_0
    try clear hfz17_1
    try clear hfz17_2
    try clear hfz17_3
    try clear hfz19_0
    try clear hfz19_1
    try clear hfz19_2
    try clear hfz19_3
    try clear hfz20_0
    try clear hfz20_1
    try clear hfz20_2
    try clear hfz20_3
    obtain ⟨kq, x36_2, rfl, HA, HJ2, BK231, BK232, HB⟩ := hcut
    cases kq with
    | zero => exact absurd HA.out (by simp [vivariumlaw11_alike.j0])
    | succ kj2 =>
      have H := HA.out
      clear HA
      simp only [vivariumlaw11_alike.j0] at H
      by_cases c21 : x36_2 = true
      · subst c21
        have H1 : (some false) = some r := by rw [if_pos rfl] at H; exact H
        clear H
        have H := H1
        clear H1
        obtain rfl := Option.some.inj H
        go_wp2
        go_ret
        exact ⟨by first | rfl | (simp [errW_none, errW_some] <;> rfl) | (simp [*, errW_none, errW_some] <;> rfl), by repeat (first | (with_reducible first | exact HB.out | apply below_alloc | apply pw_below_drewN | apply below_drew1 | refine below_set ?_ GE231.out | refine below_set ?_ GE232.out) | exact HB.out)⟩
      · replace c21 := Bool.eq_false_iff.mpr c21
        subst c21
        have H1 : (vivariumlaw11_alike.l0 kj2 0 a0_0 a0_1 l0_2 a0_3 a1_0 a1_1 l1_2 a1_3) = some r := by rw [if_neg (show ¬ (false = true) by decide)] at H; exact H
        clear H
        have H := H1
        clear H1
        have H' := Aside0.mk H
        clear H
        go_wp2
        go_loopg [5] kj2 (fun kq v5 w' => ∃ (x5_2 : Int), v5 = .int .i64 x5_2 ∧ Aside0 (vivariumlaw11_alike.l0 kq x5_2 a0_0 a0_1 l0_2 a0_3 a1_0 a1_1 l1_2 a1_3 = some r) ∧ Aside0 (kq ≤ kj2) ∧ Aside0 (w'.heap[gb231]? = some (.cells #[.int .i64 a0_0, .int .i64 a0_1, (.slice A0_2 l0_2.length c0_2), .int .i64 a0_3] 24 (0, 0))) ∧ Aside0 (w'.heap[gb232]? = some (.cells #[.int .i64 a1_0, .int .i64 a1_1, (.slice A1_2 l1_2.length c1_2), .int .i64 a1_3] 24 (0, 0))) ∧ Aside0 (Below w.heap.size w w'))
        case atStart => exact ⟨(0), (by first | rfl | (simp; done) | (simp [*]; done) | (simp [wrap64]; done)), H', ⟨Nat.le_refl _⟩, ⟨by (with_reducible repeat (first | refine blk_drewN ?_ _ | refine blk_drew ?_ | refine blk_alloc ?_ _)); exact BK231.out⟩, ⟨by (with_reducible repeat (first | refine blk_drewN ?_ _ | refine blk_drew ?_ | refine blk_alloc ?_ _)); exact BK232.out⟩, ⟨by repeat (first | (with_reducible first | exact HB.out | apply below_alloc | apply pw_below_drewN | apply below_drew1 | refine below_set ?_ GE231.out | refine below_set ?_ GE232.out) | exact HB.out)⟩⟩
        case round =>
          clear H'
          try clear c1
          try clear c2
          try clear p2
          try clear c6
          try clear c6b0
          try clear c6b1
          try clear c7
          try clear c7b0
          try clear c7b1
          try clear c8
          try clear c8b0
          try clear c8b1
          try clear c9
          try clear c12
          try clear c15
          try clear c18
          try clear c19
          try clear c21
          try clear hcz10_0
          try clear hcz10_1
          try clear hcz10_2
          try clear hcz10_3
          try clear hcz11_0
          try clear hcz11_1
          try clear hcz11_2
          try clear hcz11_3
          try clear hcz13_0
          try clear hcz13_1
          try clear hcz13_2
          try clear hcz13_3
          try clear hcz14_0
          try clear hcz14_1
          try clear hcz14_2
          try clear hcz14_3
          try clear hcz16_0
          try clear hcz16_1
          try clear hcz16_2
          try clear hcz16_3
          try clear hcz17_0
          try clear hcz17_1
          try clear hcz17_2
          try clear hcz17_3
          try clear hcz19_0
          try clear hcz19_1
          try clear hcz19_2
          try clear hcz19_3
          try clear hcz20_0
          try clear hcz20_1
          try clear hcz20_2
          try clear hcz20_3
          try clear hfz10_0
          try clear hfz10_1
          try clear hfz10_2
          try clear hfz10_3
          try clear hfz11_0
          try clear hfz11_1
          try clear hfz11_2
          try clear hfz11_3
          try clear hfz13_0
          try clear hfz13_1
          try clear hfz13_2
          try clear hfz13_3
          try clear hfz14_0
          try clear hfz14_1
          try clear hfz14_2
          try clear hfz14_3
          try clear hfz16_0
          try clear hfz16_1
          try clear hfz16_2
          try clear hfz16_3
          try clear hfz17_0
          try clear hfz17_1
          try clear hfz17_2
          try clear hfz17_3
          try clear hfz19_0
          try clear hfz19_1
          try clear hfz19_2
          try clear hfz19_3
          try clear hfz20_0
          try clear hfz20_1
          try clear hfz20_2
          try clear hfz20_3
          try clear p2
          obtain ⟨x5_2, rfl, HA, HK2, BK231, BK232, HB⟩ := hrel
          cases gk with
          | zero => exact absurd HA.out (by simp [vivariumlaw11_alike.l0])
          | succ k2 =>
            have H := HA.out
            clear HA
            simp only [vivariumlaw11_alike.l0] at H
            by_cases c22 : x5_2 < (l0_2.length : Int)
            · rw [if_pos c22] at H
              have c22b0 : decide (x5_2 < (l0_2.length : Int)) = true := decide_eq_true c22
              clear c22
              by_cases c23 : 0 ≤ x5_2
              · rw [if_pos c23] at H
                have c23b0 : decide (0 ≤ x5_2) = true := decide_eq_true c23
                clear c23
                by_cases c24 : x5_2 < (l1_2.length : Int)
                · rw [if_pos c24] at H
                  have c24b0 : decide (x5_2 < (l1_2.length : Int)) = true := decide_eq_true c24
                  clear c24
                  have HC25 := Aside0.mk H
                  clear H
                  have hnb26 := NB231_232.out
                  have hnc26 := NB232_231.out
                  have hcz27_0 : wr.cell? ⟨gb231, 0, none⟩ = some (.int .i64 a0_0) := (blk_cell BK231.out 0).trans rfl
                  have hcz27_1 : wr.cell? ⟨gb231, 1, none⟩ = some (.int .i64 a0_1) := (blk_cell BK231.out 1).trans rfl
                  have hcz27_2 : wr.cell? ⟨gb231, 2, none⟩ = some (.slice A0_2 l0_2.length c0_2) := (blk_cell BK231.out 2).trans rfl
                  have hcz27_3 : wr.cell? ⟨gb231, 3, none⟩ = some (.int .i64 a0_3) := (blk_cell BK231.out 3).trans rfl
                  have hfz27_0 := blk_frozen BK231.out 0
                  have hfz27_1 := blk_frozen BK231.out 1
                  have hfz27_2 := blk_frozen BK231.out 2
                  have hfz27_3 := blk_frozen BK231.out 3
                  try go_wp2
                  have n0_ := Aside0.mk (blk_drew BK231.out)
                  have n1_ := Aside0.mk (blk_drew BK232.out)
                  have n2_ := Aside0.mk (below_drew1 HB.out)
                  clear BK231
                  clear BK232
                  clear HB
                  have BK231 := n0_
                  have BK232 := n1_
                  have HB := n2_
                  clear n0_ n1_ n2_
                  have p233 : 0 ≤ (x5_2 : Int) := of_decide_eq_true (by first | (with_reducible assumption) | assumption)
                  have q233 : x5_2 < (l0_2.length : Int) := of_decide_eq_true (by first | (with_reducible assumption) | assumption)
                  obtain ⟨ad233, A233_1, c233_1, e233, hx233_0, hx233_1, hl233_1, hi233_1⟩ := at_T49 HR0_2.out x5_2 p233 q233
                  have hw233_1 := hx233_1
                  have hw233_0 := hx233_0
                  cases e233
                  replace hx233_0 := (HB.out.cell (World.block_lt_of_cell? w _ hx233_0)).trans hx233_0
                  replace hx233_1 := (HB.out.cell (World.block_lt_of_cell? w _ hx233_1)).trans hx233_1
                  have HR233_1 := Aside0.mk hi233_1
                  have HC233_1 := Aside0.mk hl233_1
                  clear hi233_1 hl233_1
                  replace p233 := eq_true p233
                  replace q233 := eq_true q233
                  have p234 : 0 ≤ (x5_2 : Int) := of_decide_eq_true (by first | (with_reducible assumption) | assumption)
                  have q234 : x5_2 < (l1_2.length : Int) := of_decide_eq_true (by first | (with_reducible assumption) | assumption)
                  obtain ⟨ad234, A234_1, c234_1, e234, hx234_0, hx234_1, hl234_1, hi234_1⟩ := at_T49 HR1_2.out x5_2 p234 q234
                  have hw234_1 := hx234_1
                  have hw234_0 := hx234_0
                  cases e234
                  replace hx234_0 := (HB.out.cell (World.block_lt_of_cell? w _ hx234_0)).trans hx234_0
                  replace hx234_1 := (HB.out.cell (World.block_lt_of_cell? w _ hx234_1)).trans hx234_1
                  have HR234_1 := Aside0.mk hi234_1
                  have HC234_1 := Aside0.mk hl234_1
                  clear hi234_1 hl234_1
                  replace p234 := eq_true p234
                  replace q234 := eq_true q234
                  refine start_ (n := 14) (S := fun w' => w'.cell? ⟨gb231, 0, none⟩ = some (.int .i64 a0_0) ∧ w'.cell? ⟨gb231, 1, none⟩ = some (.int .i64 a0_1) ∧ w'.cell? ⟨gb231, 2, none⟩ = some (.slice (some ad233) l0_2.length c0_2) ∧ w'.cell? ⟨gb231, 3, none⟩ = some (.int .i64 a0_3) ∧ w'.cell? ⟨gb232, 0, none⟩ = some (.int .i64 a1_0) ∧ w'.cell? ⟨gb232, 1, none⟩ = some (.int .i64 a1_1) ∧ w'.cell? ⟨gb232, 2, none⟩ = some (.slice (some ad234) l1_2.length c1_2) ∧ w'.cell? ⟨gb232, 3, none⟩ = some (.int .i64 a1_3) ∧ w'.cell? (ad233.add ((x5_2).toNat * 2)) = some (.int .u8 ((rd_T49 l0_2 x5_2).f0)) ∧ w'.cell? ⟨(ad233.add ((x5_2).toNat * 2)).block, (ad233.add ((x5_2).toNat * 2)).off + 1, none⟩ = some (.slice A233_1 ((rd_T49 l0_2 x5_2).f1).length c233_1) ∧ w'.cell? (ad234.add ((x5_2).toNat * 2)) = some (.int .u8 ((rd_T49 l1_2 x5_2).f0)) ∧ w'.cell? ⟨(ad234.add ((x5_2).toNat * 2)).block, (ad234.add ((x5_2).toNat * 2)).off + 1, none⟩ = some (.slice A234_1 ((rd_T49 l1_2 x5_2).f1).length c234_1)) (ds := []) #[false, false, false, false, false, false, false, false, false, false, false, false, false, false] (by kernel_rfl) rfl rfl ⟨(blk_cell BK231.out 0).trans rfl, (blk_cell BK231.out 1).trans rfl, (blk_cell BK231.out 2).trans rfl, (blk_cell BK231.out 3).trans rfl, (blk_cell BK232.out 0).trans rfl, (blk_cell BK232.out 1).trans rfl, (blk_cell BK232.out 2).trans rfl, (blk_cell BK232.out 3).trans rfl, ((HB.out.cell (World.block_lt_of_cell? w _ hw233_0)).trans hw233_0), ((HB.out.cell (World.block_lt_of_cell? w _ hw233_1)).trans hw233_1), ((HB.out.cell (World.block_lt_of_cell? w _ hw234_0)).trans hw234_0), ((HB.out.cell (World.block_lt_of_cell? w _ hw234_1)).trans hw234_1)⟩ (fun hHeld => ?_); refine with_tabW vivariumlaw11_alike.tab6 vivariumlaw11_alike.bits6 (fun HT_ HW_ => ?_)
                  generalize wr.drew = w28 at BK231 BK232 HB HR233_1 HR234_1 hx233_0 hx233_1 hx234_0 hx234_1 hHeld ⊢
                  refine pure_ (i := 0) (N := some 44) (v := ?_) (a' := ?_) #[true, false, false, false, false, false, false, false, false, false, false, false, false, false] rfl rfl (any_of HT_.out (by kernel_rfl)) (fun _ _ _ h => h) (Or.inl ⟨by rfl, ?_⟩) ?_ ?_
                  rotate_left
                  · intro w'
                    go_simp
                    with_reducible rfl
                  rotate_left
                  · simp only [Act.put, List.setIfInBounds_toArray, List.set_cons_zero, List.set_cons_succ, i64_w, i32_w]
                    rfl
                  refine pure_ (i := 2) (N := some 46) (v := ?_) (a' := ?_) #[true, false, true, false, false, false, false, false, false, false, false, false, false, false] rfl rfl (any_of HT_.out (by kernel_rfl)) (fun _ _ _ h => h) (Or.inl ⟨by rfl, ?_⟩) ?_ ?_
                  rotate_left
                  · intro w'
                    go_simp
                    with_reducible rfl
                  rotate_left
                  · simp only [Act.put, List.setIfInBounds_toArray, List.set_cons_zero, List.set_cons_succ, i64_w, i32_w]
                    rfl
                  refine pure_ (i := 5) (N := some 49) (v := ?_) (a' := ?_) #[true, false, true, false, false, true, false, false, false, false, false, false, false, false] rfl rfl (any_of HT_.out (by kernel_rfl)) (fun _ _ _ h => h) (Or.inl ⟨by rfl, ?_⟩) ?_ ?_
                  rotate_left
                  · intro w'
                    go_simp
                    with_reducible rfl
                  rotate_left
                  · simp only [Act.put, List.setIfInBounds_toArray, List.set_cons_zero, List.set_cons_succ, i64_w, i32_w]
                    rfl
                  refine pure_ (i := 7) (N := some 51) (v := ?_) (a' := ?_) #[true, false, true, false, false, true, false, true, false, false, false, false, false, false] rfl rfl (any_of HT_.out (by kernel_rfl)) (fun _ _ _ h => h) (Or.inl ⟨by rfl, ?_⟩) ?_ ?_
                  rotate_left
                  · intro w'
                    go_simp
                    with_reducible rfl
                  rotate_left
                  · simp only [Act.put, List.setIfInBounds_toArray, List.set_cons_zero, List.set_cons_succ, i64_w, i32_w]
                    rfl
                  refine take_ (i := 1) (N := some 45) (v := ?_) (a' := ?_) #[true, true, true, false, false, true, false, true, false, false, false, false, false, false] rfl rfl (take_ofW HT_.out HW_.out (by kernel_rfl)) (fun _ _ _ h => h) (Or.inl ⟨by rfl, ?_⟩) hHeld ?_ ?_
                  rotate_left
                  · rintro w' ⟨s0, s1, s2, s3, s4, s5, s6, s7, s8, s9, s10, s11⟩
                    go_simp
                    with_reducible rfl
                  rotate_left
                  · simp only [Act.put, List.setIfInBounds_toArray, List.set_cons_zero, List.set_cons_succ, i64_w, i32_w]
                    rfl
                  refine pure_ (i := 3) (N := some 47) (v := ?_) (a' := ?_) #[true, true, true, true, false, true, false, true, false, false, false, false, false, false] rfl rfl (any_of HT_.out (by kernel_rfl)) (fun _ _ _ h => h) (Or.inl ⟨by rfl, ?_⟩) ?_ ?_
                  rotate_left
                  · intro w'
                    go_simp
                    with_reducible rfl
                  rotate_left
                  · simp only [Act.put, List.setIfInBounds_toArray, List.set_cons_zero, List.set_cons_succ, i64_w, i32_w]
                    rfl
                  refine take_ (i := 4) (N := some 48) (v := ?_) (a' := ?_) #[true, true, true, true, true, true, false, true, false, false, false, false, false, false] rfl rfl (take_ofW HT_.out HW_.out (by kernel_rfl)) (fun _ _ _ h => h) (Or.inl ⟨by rfl, ?_⟩) hHeld ?_ ?_
                  rotate_left
                  · rintro w' ⟨s0, s1, s2, s3, s4, s5, s6, s7, s8, s9, s10, s11⟩
                    go_simp
                    with_reducible rfl
                  rotate_left
                  · simp only [Act.put, List.setIfInBounds_toArray, List.set_cons_zero, List.set_cons_succ, i64_w, i32_w]
                    rfl
                  refine take_ (i := 6) (N := some 50) (v := ?_) (a' := ?_) #[true, true, true, true, true, true, true, true, false, false, false, false, false, false] rfl rfl (take_ofW HT_.out HW_.out (by kernel_rfl)) (fun _ _ _ h => h) (Or.inl ⟨by rfl, ?_⟩) hHeld ?_ ?_
                  rotate_left
                  · rintro w' ⟨s0, s1, s2, s3, s4, s5, s6, s7, s8, s9, s10, s11⟩
                    go_simp
                    with_reducible rfl
                  rotate_left
                  · simp only [Act.put, List.setIfInBounds_toArray, List.set_cons_zero, List.set_cons_succ, i64_w, i32_w]
                    rfl
                  refine pure_ (i := 8) (N := some 52) (v := ?_) (a' := ?_) #[true, true, true, true, true, true, true, true, true, false, false, false, false, false] rfl rfl (any_of HT_.out (by kernel_rfl)) (fun _ _ _ h => h) (Or.inl ⟨by rfl, ?_⟩) ?_ ?_
                  rotate_left
                  · intro w'
                    go_simp
                    with_reducible rfl
                  rotate_left
                  · simp only [Act.put, List.setIfInBounds_toArray, List.set_cons_zero, List.set_cons_succ, i64_w, i32_w]
                    rfl
                  refine take_ (i := 9) (N := some 53) (v := ?_) (a' := ?_) #[true, true, true, true, true, true, true, true, true, true, false, false, false, false] rfl rfl (take_ofW HT_.out HW_.out (by kernel_rfl)) (fun _ _ _ h => h) (Or.inl ⟨by rfl, ?_⟩) hHeld ?_ ?_
                  rotate_left
                  · rintro w' ⟨s0, s1, s2, s3, s4, s5, s6, s7, s8, s9, s10, s11⟩
                    go_simp
                    with_reducible rfl
                  rotate_left
                  · simp only [Act.put, List.setIfInBounds_toArray, List.set_cons_zero, List.set_cons_succ, i64_w, i32_w]
                    rfl
                  refine join_ (σ := Nat × Nat) 2 #[true, true, true, true, true, true, true, true, true, true, true, true, false, false] (fun s_ => [(6, .pointer (some ⟨s_.1, 0, none⟩)), (7, .pointer (some ⟨s_.2, 0, none⟩))]) (fun s_ w' => (w'.cell? ⟨gb231, 0, none⟩ = some (.int .i64 a0_0) ∧ w'.cell? ⟨gb231, 1, none⟩ = some (.int .i64 a0_1) ∧ w'.cell? ⟨gb231, 2, none⟩ = some (.slice (some ad233) l0_2.length c0_2) ∧ w'.cell? ⟨gb231, 3, none⟩ = some (.int .i64 a0_3) ∧ w'.cell? ⟨gb232, 0, none⟩ = some (.int .i64 a1_0) ∧ w'.cell? ⟨gb232, 1, none⟩ = some (.int .i64 a1_1) ∧ w'.cell? ⟨gb232, 2, none⟩ = some (.slice (some ad234) l1_2.length c1_2) ∧ w'.cell? ⟨gb232, 3, none⟩ = some (.int .i64 a1_3) ∧ w'.cell? (ad233.add ((x5_2).toNat * 2)) = some (.int .u8 ((rd_T49 l0_2 x5_2).f0)) ∧ w'.cell? ⟨(ad233.add ((x5_2).toNat * 2)).block, (ad233.add ((x5_2).toNat * 2)).off + 1, none⟩ = some (.slice A233_1 ((rd_T49 l0_2 x5_2).f1).length c233_1) ∧ w'.cell? (ad234.add ((x5_2).toNat * 2)) = some (.int .u8 ((rd_T49 l1_2 x5_2).f0)) ∧ w'.cell? ⟨(ad234.add ((x5_2).toNat * 2)).block, (ad234.add ((x5_2).toNat * 2)).off + 1, none⟩ = some (.slice A234_1 ((rd_T49 l1_2 x5_2).f1).length c234_1)) ∧ (w'.heap[gb231]? = some (.cells #[.int .i64 a0_0, .int .i64 a0_1, .slice (some ad233) l0_2.length c0_2, .int .i64 a0_3] 24 (0, 0))) ∧ (w'.heap[gb232]? = some (.cells #[.int .i64 a1_0, .int .i64 a1_1, .slice (some ad234) l1_2.length c1_2, .int .i64 a1_3] 24 (0, 0))) ∧ (w'.heap[s_.1]? = some (.cells #[.int .u8 0, .slice none 0 0] 49 (0, 0))) ∧ (w'.heap[s_.2]? = some (.cells #[.int .u8 0, .slice none 0 0] 49 (0, 0))) ∧ (w.heap.size ≤ s_.1) ∧ (w.heap.size ≤ s_.1) ∧ (gb231 ≠ s_.1) ∧ (s_.1 ≠ gb231) ∧ (gb232 ≠ s_.1) ∧ (s_.1 ≠ gb232) ∧ (s_.2 ≠ s_.1) ∧ (s_.1 ≠ s_.2) ∧ (w.heap.size ≤ s_.2) ∧ (w.heap.size ≤ s_.2) ∧ (gb231 ≠ s_.2) ∧ (s_.2 ≠ gb231) ∧ (gb232 ≠ s_.2) ∧ (s_.2 ≠ gb232) ∧ (Below w.heap.size w w')) ?_ ?_
                  rotate_left
                  · intro hCont
                    refine two_ (i := 10) (j := 11) (Ni := some 6) (Nj := some 7) #[true, true, true, true, true, true, true, true, true, true, true, false, false, false] #[true, true, true, true, true, true, true, true, true, true, false, true, false, false] rfl rfl rfl rfl (two_of HT_.out (by kernel_rfl)) (by decide) (by decide) (fun K hK => ?_) (fun K hK => ?_)
                    · skip
                      refine box_step ?hg (N := 6) ?hd (cs := #[.int .u8 0, .slice none 0 0]) (t := 49) ?hr ?_; (case hd => rfl); (case hg => rfl); (case hr => first | (go_simp; done) | (go_simp; rfl))
                      intro gb235 hg w29 hbox hb
                      have n0_ := Aside0.mk (blk_below (g := gb231) (o := .cells #[.int .i64 a0_0, .int .i64 a0_1, .slice (some ad233) l0_2.length c0_2, .int .i64 a0_3] 24 (0, 0)) (by (with_reducible repeat (first | refine blk_drewN ?_ _ | refine blk_drew ?_ | refine blk_alloc ?_ _)); exact BK231.out) hb)
                      have n1_ := Aside0.mk (blk_below (g := gb232) (o := .cells #[.int .i64 a1_0, .int .i64 a1_1, .slice (some ad234) l1_2.length c1_2, .int .i64 a1_3] 24 (0, 0)) (by (with_reducible repeat (first | refine blk_drewN ?_ _ | refine blk_drew ?_ | refine blk_alloc ?_ _)); exact BK232.out) hb)
                      have n2_ := Aside0.mk (below_step (by repeat (first | (with_reducible first | exact HB.out | apply below_alloc | apply pw_below_drewN | apply below_drew1 | refine below_set ?_ GE231.out | refine below_set ?_ GE232.out) | exact HB.out)) hb)
                      have n3_ := Aside0.mk (hbox)
                      have n4_ := Aside0.mk ((by rw [hg]; exact (below_size (by repeat (first | (with_reducible first | exact HB.out | apply below_alloc | apply pw_below_drewN | apply below_drew1 | refine below_set ?_ GE231.out | refine below_set ?_ GE232.out) | exact HB.out))) : w.heap.size ≤ gb235))
                      have n5_ := Aside0.mk ((by rw [hg]; exact (below_size (by repeat (first | (with_reducible first | exact HB.out | apply below_alloc | apply pw_below_drewN | apply below_drew1 | refine below_set ?_ GE231.out | refine below_set ?_ GE232.out) | exact HB.out))) : w.heap.size ≤ gb235))
                      have n6_ := Aside0.mk ((by rw [hg]; exact Nat.ne_of_lt (blk_lt (g := gb231) (o := .cells #[.int .i64 a0_0, .int .i64 a0_1, .slice (some ad233) l0_2.length c0_2, .int .i64 a0_3] 24 (0, 0)) (by (with_reducible repeat (first | refine blk_drewN ?_ _ | refine blk_drew ?_ | refine blk_alloc ?_ _)); exact BK231.out)) : gb231 ≠ gb235))
                      have n7_ := Aside0.mk ((by rw [hg]; exact Nat.ne_of_gt (blk_lt (g := gb231) (o := .cells #[.int .i64 a0_0, .int .i64 a0_1, .slice (some ad233) l0_2.length c0_2, .int .i64 a0_3] 24 (0, 0)) (by (with_reducible repeat (first | refine blk_drewN ?_ _ | refine blk_drew ?_ | refine blk_alloc ?_ _)); exact BK231.out)) : gb235 ≠ gb231))
                      have n8_ := Aside0.mk ((by rw [hg]; exact Nat.ne_of_lt (blk_lt (g := gb232) (o := .cells #[.int .i64 a1_0, .int .i64 a1_1, .slice (some ad234) l1_2.length c1_2, .int .i64 a1_3] 24 (0, 0)) (by (with_reducible repeat (first | refine blk_drewN ?_ _ | refine blk_drew ?_ | refine blk_alloc ?_ _)); exact BK232.out)) : gb232 ≠ gb235))
                      have n9_ := Aside0.mk ((by rw [hg]; exact Nat.ne_of_gt (blk_lt (g := gb232) (o := .cells #[.int .i64 a1_0, .int .i64 a1_1, .slice (some ad234) l1_2.length c1_2, .int .i64 a1_3] 24 (0, 0)) (by (with_reducible repeat (first | refine blk_drewN ?_ _ | refine blk_drew ?_ | refine blk_alloc ?_ _)); exact BK232.out)) : gb235 ≠ gb232))
                      clear BK231
                      clear BK232
                      clear HB
                      have BK231 := n0_
                      have BK232 := n1_
                      have HB := n2_
                      have BK235 := n3_
                      have GW235 := n4_
                      have GE235 := n5_
                      have NB231_235 := n6_
                      have NB235_231 := n7_
                      have NB232_235 := n8_
                      have NB235_232 := n9_
                      clear n0_ n1_ n2_ n3_ n4_ n5_ n6_ n7_ n8_ n9_
                      clear hb hbox hg
                      refine hK.out _ _ ⟨(blk_cell BK231.out 0).trans rfl, (blk_cell BK231.out 1).trans rfl, (blk_cell BK231.out 2).trans rfl, (blk_cell BK231.out 3).trans rfl, (blk_cell BK232.out 0).trans rfl, (blk_cell BK232.out 1).trans rfl, (blk_cell BK232.out 2).trans rfl, (blk_cell BK232.out 3).trans rfl, ((HB.out.cell (World.block_lt_of_cell? w _ hw233_0)).trans hw233_0), ((HB.out.cell (World.block_lt_of_cell? w _ hw233_1)).trans hw233_1), ((HB.out.cell (World.block_lt_of_cell? w _ hw234_0)).trans hw234_0), ((HB.out.cell (World.block_lt_of_cell? w _ hw234_1)).trans hw234_1)⟩ (fun hHeld => ?_)
                      clear hK K
                      refine norm_ (a' := ?_) ?_ ?_
                      rotate_left
                      · show Act.put _ (some 6) _ = _
                        simp only [Act.put, List.setIfInBounds_toArray, List.set_cons_zero, List.set_cons_succ, i64_w, i32_w]
                        rfl
                      refine one_ (i := 11) (N := some 7) #[true, true, true, true, true, true, true, true, true, true, true, true, false, false] rfl rfl (one_of HT_.out (by kernel_rfl)) (by decide) (fun K hK => ?_)
                      refine box_step ?hg (N := 7) ?hd (cs := #[.int .u8 0, .slice none 0 0]) (t := 49) ?hr ?_; (case hd => rfl); (case hg => rfl); (case hr => first | (go_simp; done) | (go_simp; rfl))
                      intro gb236 hg w30 hbox hb
                      have n0_ := Aside0.mk (blk_below (g := gb231) (o := .cells #[.int .i64 a0_0, .int .i64 a0_1, .slice (some ad233) l0_2.length c0_2, .int .i64 a0_3] 24 (0, 0)) (by (with_reducible repeat (first | refine blk_drewN ?_ _ | refine blk_drew ?_ | refine blk_alloc ?_ _)); exact BK231.out) hb)
                      have n1_ := Aside0.mk (blk_below (g := gb232) (o := .cells #[.int .i64 a1_0, .int .i64 a1_1, .slice (some ad234) l1_2.length c1_2, .int .i64 a1_3] 24 (0, 0)) (by (with_reducible repeat (first | refine blk_drewN ?_ _ | refine blk_drew ?_ | refine blk_alloc ?_ _)); exact BK232.out) hb)
                      have n2_ := Aside0.mk (blk_below (g := gb235) (o := .cells #[.int .u8 0, .slice none 0 0] 49 (0, 0)) (by (with_reducible repeat (first | refine blk_drewN ?_ _ | refine blk_drew ?_ | refine blk_alloc ?_ _)); exact BK235.out) hb)
                      have n3_ := Aside0.mk (below_step (by repeat (first | (with_reducible first | exact HB.out | apply below_alloc | apply pw_below_drewN | apply below_drew1 | refine below_set ?_ GE231.out | refine below_set ?_ GE232.out | refine below_set ?_ GE235.out) | exact HB.out)) hb)
                      have n4_ := Aside0.mk (hbox)
                      have n5_ := Aside0.mk ((by rw [hg]; exact (below_size (by repeat (first | (with_reducible first | exact HB.out | apply below_alloc | apply pw_below_drewN | apply below_drew1 | refine below_set ?_ GE231.out | refine below_set ?_ GE232.out | refine below_set ?_ GE235.out) | exact HB.out))) : w.heap.size ≤ gb236))
                      have n6_ := Aside0.mk ((by rw [hg]; exact (below_size (by repeat (first | (with_reducible first | exact HB.out | apply below_alloc | apply pw_below_drewN | apply below_drew1 | refine below_set ?_ GE231.out | refine below_set ?_ GE232.out | refine below_set ?_ GE235.out) | exact HB.out))) : w.heap.size ≤ gb236))
                      have n7_ := Aside0.mk ((by rw [hg]; exact Nat.ne_of_lt (blk_lt (g := gb231) (o := .cells #[.int .i64 a0_0, .int .i64 a0_1, .slice (some ad233) l0_2.length c0_2, .int .i64 a0_3] 24 (0, 0)) (by (with_reducible repeat (first | refine blk_drewN ?_ _ | refine blk_drew ?_ | refine blk_alloc ?_ _)); exact BK231.out)) : gb231 ≠ gb236))
                      have n8_ := Aside0.mk ((by rw [hg]; exact Nat.ne_of_gt (blk_lt (g := gb231) (o := .cells #[.int .i64 a0_0, .int .i64 a0_1, .slice (some ad233) l0_2.length c0_2, .int .i64 a0_3] 24 (0, 0)) (by (with_reducible repeat (first | refine blk_drewN ?_ _ | refine blk_drew ?_ | refine blk_alloc ?_ _)); exact BK231.out)) : gb236 ≠ gb231))
                      have n9_ := Aside0.mk ((by rw [hg]; exact Nat.ne_of_lt (blk_lt (g := gb232) (o := .cells #[.int .i64 a1_0, .int .i64 a1_1, .slice (some ad234) l1_2.length c1_2, .int .i64 a1_3] 24 (0, 0)) (by (with_reducible repeat (first | refine blk_drewN ?_ _ | refine blk_drew ?_ | refine blk_alloc ?_ _)); exact BK232.out)) : gb232 ≠ gb236))
                      have n10_ := Aside0.mk ((by rw [hg]; exact Nat.ne_of_gt (blk_lt (g := gb232) (o := .cells #[.int .i64 a1_0, .int .i64 a1_1, .slice (some ad234) l1_2.length c1_2, .int .i64 a1_3] 24 (0, 0)) (by (with_reducible repeat (first | refine blk_drewN ?_ _ | refine blk_drew ?_ | refine blk_alloc ?_ _)); exact BK232.out)) : gb236 ≠ gb232))
                      have n11_ := Aside0.mk ((by rw [hg]; exact Nat.ne_of_lt (blk_lt (g := gb235) (o := .cells #[.int .u8 0, .slice none 0 0] 49 (0, 0)) (by (with_reducible repeat (first | refine blk_drewN ?_ _ | refine blk_drew ?_ | refine blk_alloc ?_ _)); exact BK235.out)) : gb235 ≠ gb236))
                      have n12_ := Aside0.mk ((by rw [hg]; exact Nat.ne_of_gt (blk_lt (g := gb235) (o := .cells #[.int .u8 0, .slice none 0 0] 49 (0, 0)) (by (with_reducible repeat (first | refine blk_drewN ?_ _ | refine blk_drew ?_ | refine blk_alloc ?_ _)); exact BK235.out)) : gb236 ≠ gb235))
                      clear BK231
                      clear BK232
                      clear BK235
                      clear HB
                      have BK231 := n0_
                      have BK232 := n1_
                      have BK235 := n2_
                      have HB := n3_
                      have BK236 := n4_
                      have GW236 := n5_
                      have GE236 := n6_
                      have NB231_236 := n7_
                      have NB236_231 := n8_
                      have NB232_236 := n9_
                      have NB236_232 := n10_
                      have NB235_236 := n11_
                      have NB236_235 := n12_
                      clear n0_ n1_ n2_ n3_ n4_ n5_ n6_ n7_ n8_ n9_ n10_ n11_ n12_
                      clear hb hbox hg
                      refine hK.out _ _ ⟨(blk_cell BK231.out 0).trans rfl, (blk_cell BK231.out 1).trans rfl, (blk_cell BK231.out 2).trans rfl, (blk_cell BK231.out 3).trans rfl, (blk_cell BK232.out 0).trans rfl, (blk_cell BK232.out 1).trans rfl, (blk_cell BK232.out 2).trans rfl, (blk_cell BK232.out 3).trans rfl, ((HB.out.cell (World.block_lt_of_cell? w _ hw233_0)).trans hw233_0), ((HB.out.cell (World.block_lt_of_cell? w _ hw233_1)).trans hw233_1), ((HB.out.cell (World.block_lt_of_cell? w _ hw234_0)).trans hw234_0), ((HB.out.cell (World.block_lt_of_cell? w _ hw234_1)).trans hw234_1)⟩ (fun hHeld => ?_)
                      clear hK K
                      refine norm_ (a' := ?_) ?_ ?_
                      rotate_left
                      · show Act.put _ (some 7) _ = _
                        simp only [Act.put, List.setIfInBounds_toArray, List.set_cons_zero, List.set_cons_succ, i64_w, i32_w]
                        rfl
                      exact norm_ (by simp only [putAll, Act.put, List.setIfInBounds_toArray, List.set_cons_zero, List.set_cons_succ]) (hCont (gb235, gb236) _ ⟨hHeld, (by (with_reducible repeat (first | refine blk_drewN ?_ _ | refine blk_drew ?_ | refine blk_alloc ?_ _)); exact BK231.out), (by (with_reducible repeat (first | refine blk_drewN ?_ _ | refine blk_drew ?_ | refine blk_alloc ?_ _)); exact BK232.out), (by (with_reducible repeat (first | refine blk_drewN ?_ _ | refine blk_drew ?_ | refine blk_alloc ?_ _)); exact BK235.out), (by (with_reducible repeat (first | refine blk_drewN ?_ _ | refine blk_drew ?_ | refine blk_alloc ?_ _)); exact BK236.out), GW235.out, GE235.out, NB231_235.out, NB235_231.out, NB232_235.out, NB235_232.out, NB236_235.out, NB235_236.out, GW236.out, GE236.out, NB231_236.out, NB236_231.out, NB232_236.out, NB236_232.out, (by repeat (first | (with_reducible first | exact HB.out | apply below_alloc | apply pw_below_drewN | apply below_drew1 | refine below_set ?_ GE231.out | refine below_set ?_ GE232.out | refine below_set ?_ GE235.out | refine below_set ?_ GE236.out) | exact HB.out))⟩)
                    · skip
                      refine box_step ?hg (N := 7) ?hd (cs := #[.int .u8 0, .slice none 0 0]) (t := 49) ?hr ?_; (case hd => rfl); (case hg => rfl); (case hr => first | (go_simp; done) | (go_simp; rfl))
                      intro gb236 hg w29 hbox hb
                      have n0_ := Aside0.mk (blk_below (g := gb231) (o := .cells #[.int .i64 a0_0, .int .i64 a0_1, .slice (some ad233) l0_2.length c0_2, .int .i64 a0_3] 24 (0, 0)) (by (with_reducible repeat (first | refine blk_drewN ?_ _ | refine blk_drew ?_ | refine blk_alloc ?_ _)); exact BK231.out) hb)
                      have n1_ := Aside0.mk (blk_below (g := gb232) (o := .cells #[.int .i64 a1_0, .int .i64 a1_1, .slice (some ad234) l1_2.length c1_2, .int .i64 a1_3] 24 (0, 0)) (by (with_reducible repeat (first | refine blk_drewN ?_ _ | refine blk_drew ?_ | refine blk_alloc ?_ _)); exact BK232.out) hb)
                      have n2_ := Aside0.mk (below_step (by repeat (first | (with_reducible first | exact HB.out | apply below_alloc | apply pw_below_drewN | apply below_drew1 | refine below_set ?_ GE231.out | refine below_set ?_ GE232.out) | exact HB.out)) hb)
                      have n3_ := Aside0.mk (hbox)
                      have n4_ := Aside0.mk ((by rw [hg]; exact (below_size (by repeat (first | (with_reducible first | exact HB.out | apply below_alloc | apply pw_below_drewN | apply below_drew1 | refine below_set ?_ GE231.out | refine below_set ?_ GE232.out) | exact HB.out))) : w.heap.size ≤ gb236))
                      have n5_ := Aside0.mk ((by rw [hg]; exact (below_size (by repeat (first | (with_reducible first | exact HB.out | apply below_alloc | apply pw_below_drewN | apply below_drew1 | refine below_set ?_ GE231.out | refine below_set ?_ GE232.out) | exact HB.out))) : w.heap.size ≤ gb236))
                      have n6_ := Aside0.mk ((by rw [hg]; exact Nat.ne_of_lt (blk_lt (g := gb231) (o := .cells #[.int .i64 a0_0, .int .i64 a0_1, .slice (some ad233) l0_2.length c0_2, .int .i64 a0_3] 24 (0, 0)) (by (with_reducible repeat (first | refine blk_drewN ?_ _ | refine blk_drew ?_ | refine blk_alloc ?_ _)); exact BK231.out)) : gb231 ≠ gb236))
                      have n7_ := Aside0.mk ((by rw [hg]; exact Nat.ne_of_gt (blk_lt (g := gb231) (o := .cells #[.int .i64 a0_0, .int .i64 a0_1, .slice (some ad233) l0_2.length c0_2, .int .i64 a0_3] 24 (0, 0)) (by (with_reducible repeat (first | refine blk_drewN ?_ _ | refine blk_drew ?_ | refine blk_alloc ?_ _)); exact BK231.out)) : gb236 ≠ gb231))
                      have n8_ := Aside0.mk ((by rw [hg]; exact Nat.ne_of_lt (blk_lt (g := gb232) (o := .cells #[.int .i64 a1_0, .int .i64 a1_1, .slice (some ad234) l1_2.length c1_2, .int .i64 a1_3] 24 (0, 0)) (by (with_reducible repeat (first | refine blk_drewN ?_ _ | refine blk_drew ?_ | refine blk_alloc ?_ _)); exact BK232.out)) : gb232 ≠ gb236))
                      have n9_ := Aside0.mk ((by rw [hg]; exact Nat.ne_of_gt (blk_lt (g := gb232) (o := .cells #[.int .i64 a1_0, .int .i64 a1_1, .slice (some ad234) l1_2.length c1_2, .int .i64 a1_3] 24 (0, 0)) (by (with_reducible repeat (first | refine blk_drewN ?_ _ | refine blk_drew ?_ | refine blk_alloc ?_ _)); exact BK232.out)) : gb236 ≠ gb232))
                      clear BK231
                      clear BK232
                      clear HB
                      have BK231 := n0_
                      have BK232 := n1_
                      have HB := n2_
                      have BK236 := n3_
                      have GW236 := n4_
                      have GE236 := n5_
                      have NB231_236 := n6_
                      have NB236_231 := n7_
                      have NB232_236 := n8_
                      have NB236_232 := n9_
                      clear n0_ n1_ n2_ n3_ n4_ n5_ n6_ n7_ n8_ n9_
                      clear hb hbox hg
                      refine hK.out _ _ ⟨(blk_cell BK231.out 0).trans rfl, (blk_cell BK231.out 1).trans rfl, (blk_cell BK231.out 2).trans rfl, (blk_cell BK231.out 3).trans rfl, (blk_cell BK232.out 0).trans rfl, (blk_cell BK232.out 1).trans rfl, (blk_cell BK232.out 2).trans rfl, (blk_cell BK232.out 3).trans rfl, ((HB.out.cell (World.block_lt_of_cell? w _ hw233_0)).trans hw233_0), ((HB.out.cell (World.block_lt_of_cell? w _ hw233_1)).trans hw233_1), ((HB.out.cell (World.block_lt_of_cell? w _ hw234_0)).trans hw234_0), ((HB.out.cell (World.block_lt_of_cell? w _ hw234_1)).trans hw234_1)⟩ (fun hHeld => ?_)
                      clear hK K
                      refine norm_ (a' := ?_) ?_ ?_
                      rotate_left
                      · show Act.put _ (some 7) _ = _
                        simp only [Act.put, List.setIfInBounds_toArray, List.set_cons_zero, List.set_cons_succ, i64_w, i32_w]
                        rfl
                      refine one_ (i := 10) (N := some 6) #[true, true, true, true, true, true, true, true, true, true, true, true, false, false] rfl rfl (one_of HT_.out (by kernel_rfl)) (by decide) (fun K hK => ?_)
                      refine box_step ?hg (N := 6) ?hd (cs := #[.int .u8 0, .slice none 0 0]) (t := 49) ?hr ?_; (case hd => rfl); (case hg => rfl); (case hr => first | (go_simp; done) | (go_simp; rfl))
                      intro gb235 hg w30 hbox hb
                      have n0_ := Aside0.mk (blk_below (g := gb231) (o := .cells #[.int .i64 a0_0, .int .i64 a0_1, .slice (some ad233) l0_2.length c0_2, .int .i64 a0_3] 24 (0, 0)) (by (with_reducible repeat (first | refine blk_drewN ?_ _ | refine blk_drew ?_ | refine blk_alloc ?_ _)); exact BK231.out) hb)
                      have n1_ := Aside0.mk (blk_below (g := gb232) (o := .cells #[.int .i64 a1_0, .int .i64 a1_1, .slice (some ad234) l1_2.length c1_2, .int .i64 a1_3] 24 (0, 0)) (by (with_reducible repeat (first | refine blk_drewN ?_ _ | refine blk_drew ?_ | refine blk_alloc ?_ _)); exact BK232.out) hb)
                      have n2_ := Aside0.mk (blk_below (g := gb236) (o := .cells #[.int .u8 0, .slice none 0 0] 49 (0, 0)) (by (with_reducible repeat (first | refine blk_drewN ?_ _ | refine blk_drew ?_ | refine blk_alloc ?_ _)); exact BK236.out) hb)
                      have n3_ := Aside0.mk (below_step (by repeat (first | (with_reducible first | exact HB.out | apply below_alloc | apply pw_below_drewN | apply below_drew1 | refine below_set ?_ GE231.out | refine below_set ?_ GE232.out | refine below_set ?_ GE236.out) | exact HB.out)) hb)
                      have n4_ := Aside0.mk (hbox)
                      have n5_ := Aside0.mk ((by rw [hg]; exact (below_size (by repeat (first | (with_reducible first | exact HB.out | apply below_alloc | apply pw_below_drewN | apply below_drew1 | refine below_set ?_ GE231.out | refine below_set ?_ GE232.out | refine below_set ?_ GE236.out) | exact HB.out))) : w.heap.size ≤ gb235))
                      have n6_ := Aside0.mk ((by rw [hg]; exact (below_size (by repeat (first | (with_reducible first | exact HB.out | apply below_alloc | apply pw_below_drewN | apply below_drew1 | refine below_set ?_ GE231.out | refine below_set ?_ GE232.out | refine below_set ?_ GE236.out) | exact HB.out))) : w.heap.size ≤ gb235))
                      have n7_ := Aside0.mk ((by rw [hg]; exact Nat.ne_of_lt (blk_lt (g := gb231) (o := .cells #[.int .i64 a0_0, .int .i64 a0_1, .slice (some ad233) l0_2.length c0_2, .int .i64 a0_3] 24 (0, 0)) (by (with_reducible repeat (first | refine blk_drewN ?_ _ | refine blk_drew ?_ | refine blk_alloc ?_ _)); exact BK231.out)) : gb231 ≠ gb235))
                      have n8_ := Aside0.mk ((by rw [hg]; exact Nat.ne_of_gt (blk_lt (g := gb231) (o := .cells #[.int .i64 a0_0, .int .i64 a0_1, .slice (some ad233) l0_2.length c0_2, .int .i64 a0_3] 24 (0, 0)) (by (with_reducible repeat (first | refine blk_drewN ?_ _ | refine blk_drew ?_ | refine blk_alloc ?_ _)); exact BK231.out)) : gb235 ≠ gb231))
                      have n9_ := Aside0.mk ((by rw [hg]; exact Nat.ne_of_lt (blk_lt (g := gb232) (o := .cells #[.int .i64 a1_0, .int .i64 a1_1, .slice (some ad234) l1_2.length c1_2, .int .i64 a1_3] 24 (0, 0)) (by (with_reducible repeat (first | refine blk_drewN ?_ _ | refine blk_drew ?_ | refine blk_alloc ?_ _)); exact BK232.out)) : gb232 ≠ gb235))
                      have n10_ := Aside0.mk ((by rw [hg]; exact Nat.ne_of_gt (blk_lt (g := gb232) (o := .cells #[.int .i64 a1_0, .int .i64 a1_1, .slice (some ad234) l1_2.length c1_2, .int .i64 a1_3] 24 (0, 0)) (by (with_reducible repeat (first | refine blk_drewN ?_ _ | refine blk_drew ?_ | refine blk_alloc ?_ _)); exact BK232.out)) : gb235 ≠ gb232))
                      have n11_ := Aside0.mk ((by rw [hg]; exact Nat.ne_of_lt (blk_lt (g := gb236) (o := .cells #[.int .u8 0, .slice none 0 0] 49 (0, 0)) (by (with_reducible repeat (first | refine blk_drewN ?_ _ | refine blk_drew ?_ | refine blk_alloc ?_ _)); exact BK236.out)) : gb236 ≠ gb235))
                      have n12_ := Aside0.mk ((by rw [hg]; exact Nat.ne_of_gt (blk_lt (g := gb236) (o := .cells #[.int .u8 0, .slice none 0 0] 49 (0, 0)) (by (with_reducible repeat (first | refine blk_drewN ?_ _ | refine blk_drew ?_ | refine blk_alloc ?_ _)); exact BK236.out)) : gb235 ≠ gb236))
                      clear BK231
                      clear BK232
                      clear BK236
                      clear HB
                      have BK231 := n0_
                      have BK232 := n1_
                      have BK236 := n2_
                      have HB := n3_
                      have BK235 := n4_
                      have GW235 := n5_
                      have GE235 := n6_
                      have NB231_235 := n7_
                      have NB235_231 := n8_
                      have NB232_235 := n9_
                      have NB235_232 := n10_
                      have NB236_235 := n11_
                      have NB235_236 := n12_
                      clear n0_ n1_ n2_ n3_ n4_ n5_ n6_ n7_ n8_ n9_ n10_ n11_ n12_
                      clear hb hbox hg
                      refine hK.out _ _ ⟨(blk_cell BK231.out 0).trans rfl, (blk_cell BK231.out 1).trans rfl, (blk_cell BK231.out 2).trans rfl, (blk_cell BK231.out 3).trans rfl, (blk_cell BK232.out 0).trans rfl, (blk_cell BK232.out 1).trans rfl, (blk_cell BK232.out 2).trans rfl, (blk_cell BK232.out 3).trans rfl, ((HB.out.cell (World.block_lt_of_cell? w _ hw233_0)).trans hw233_0), ((HB.out.cell (World.block_lt_of_cell? w _ hw233_1)).trans hw233_1), ((HB.out.cell (World.block_lt_of_cell? w _ hw234_0)).trans hw234_0), ((HB.out.cell (World.block_lt_of_cell? w _ hw234_1)).trans hw234_1)⟩ (fun hHeld => ?_)
                      clear hK K
                      refine norm_ (a' := ?_) ?_ ?_
                      rotate_left
                      · show Act.put _ (some 6) _ = _
                        simp only [Act.put, List.setIfInBounds_toArray, List.set_cons_zero, List.set_cons_succ, i64_w, i32_w]
                        rfl
                      exact norm_ (by simp only [putAll, Act.put, List.setIfInBounds_toArray, List.set_cons_zero, List.set_cons_succ]) (hCont (gb235, gb236) _ ⟨hHeld, (by (with_reducible repeat (first | refine blk_drewN ?_ _ | refine blk_drew ?_ | refine blk_alloc ?_ _)); exact BK231.out), (by (with_reducible repeat (first | refine blk_drewN ?_ _ | refine blk_drew ?_ | refine blk_alloc ?_ _)); exact BK232.out), (by (with_reducible repeat (first | refine blk_drewN ?_ _ | refine blk_drew ?_ | refine blk_alloc ?_ _)); exact BK235.out), (by (with_reducible repeat (first | refine blk_drewN ?_ _ | refine blk_drew ?_ | refine blk_alloc ?_ _)); exact BK236.out), GW235.out, GE235.out, NB231_235.out, NB235_231.out, NB232_235.out, NB235_232.out, NB236_235.out, NB235_236.out, GW236.out, GE236.out, NB231_236.out, NB236_231.out, NB232_236.out, NB236_232.out, (by repeat (first | (with_reducible first | exact HB.out | apply below_alloc | apply pw_below_drewN | apply below_drew1 | refine below_set ?_ GE231.out | refine below_set ?_ GE232.out | refine below_set ?_ GE236.out | refine below_set ?_ GE235.out) | exact HB.out))⟩)
                  rintro ⟨gb235, gb236⟩ w31 ⟨hS_, h0_, h1_, h2_, h3_, h4_, h5_, h6_, h7_, h8_, h9_, h10_, h11_, h12_, h13_, h14_, h15_, h16_, h17_, h18_⟩
                  have n0_ : Aside0 (w31.heap[gb231]? = some (.cells #[.int .i64 a0_0, .int .i64 a0_1, .slice (some ad233) l0_2.length c0_2, .int .i64 a0_3] 24 (0, 0))) := ⟨h0_⟩
                  have n1_ : Aside0 (w31.heap[gb232]? = some (.cells #[.int .i64 a1_0, .int .i64 a1_1, .slice (some ad234) l1_2.length c1_2, .int .i64 a1_3] 24 (0, 0))) := ⟨h1_⟩
                  have n2_ : Aside0 (w31.heap[gb235]? = some (.cells #[.int .u8 0, .slice none 0 0] 49 (0, 0))) := ⟨h2_⟩
                  have n3_ : Aside0 (w31.heap[gb236]? = some (.cells #[.int .u8 0, .slice none 0 0] 49 (0, 0))) := ⟨h3_⟩
                  have n4_ : Aside0 (w.heap.size ≤ gb235) := ⟨h4_⟩
                  have n5_ : Aside0 (w.heap.size ≤ gb235) := ⟨h5_⟩
                  have n6_ : Aside0 (gb231 ≠ gb235) := ⟨h6_⟩
                  have n7_ : Aside0 (gb235 ≠ gb231) := ⟨h7_⟩
                  have n8_ : Aside0 (gb232 ≠ gb235) := ⟨h8_⟩
                  have n9_ : Aside0 (gb235 ≠ gb232) := ⟨h9_⟩
                  have n10_ : Aside0 (gb236 ≠ gb235) := ⟨h10_⟩
                  have n11_ : Aside0 (gb235 ≠ gb236) := ⟨h11_⟩
                  have n12_ : Aside0 (w.heap.size ≤ gb236) := ⟨h12_⟩
                  have n13_ : Aside0 (w.heap.size ≤ gb236) := ⟨h13_⟩
                  have n14_ : Aside0 (gb231 ≠ gb236) := ⟨h14_⟩
                  have n15_ : Aside0 (gb236 ≠ gb231) := ⟨h15_⟩
                  have n16_ : Aside0 (gb232 ≠ gb236) := ⟨h16_⟩
                  have n17_ : Aside0 (gb236 ≠ gb232) := ⟨h17_⟩
                  have n18_ : Aside0 (Below w.heap.size w w31) := ⟨h18_⟩
                  clear BK231
                  clear BK232
                  clear HB
                  clear h0_ h1_ h2_ h3_ h4_ h5_ h6_ h7_ h8_ h9_ h10_ h11_ h12_ h13_ h14_ h15_ h16_ h17_ h18_
                  have BK231 := n0_
                  have BK232 := n1_
                  have BK235 := n2_
                  have BK236 := n3_
                  have GW235 := n4_
                  have GE235 := n5_
                  have NB231_235 := n6_
                  have NB235_231 := n7_
                  have NB232_235 := n8_
                  have NB235_232 := n9_
                  have NB236_235 := n10_
                  have NB235_236 := n11_
                  have GW236 := n12_
                  have GE236 := n13_
                  have NB231_236 := n14_
                  have NB236_231 := n15_
                  have NB232_236 := n16_
                  have NB236_232 := n17_
                  have HB := n18_
                  clear n0_ n1_ n2_ n3_ n4_ n5_ n6_ n7_ n8_ n9_ n10_ n11_ n12_ n13_ n14_ n15_ n16_ n17_ n18_
                  have hHeld : w31.cell? ⟨gb231, 0, none⟩ = some (.int .i64 a0_0) ∧ w31.cell? ⟨gb231, 1, none⟩ = some (.int .i64 a0_1) ∧ w31.cell? ⟨gb231, 2, none⟩ = some (.slice (some ad233) l0_2.length c0_2) ∧ w31.cell? ⟨gb231, 3, none⟩ = some (.int .i64 a0_3) ∧ w31.cell? ⟨gb232, 0, none⟩ = some (.int .i64 a1_0) ∧ w31.cell? ⟨gb232, 1, none⟩ = some (.int .i64 a1_1) ∧ w31.cell? ⟨gb232, 2, none⟩ = some (.slice (some ad234) l1_2.length c1_2) ∧ w31.cell? ⟨gb232, 3, none⟩ = some (.int .i64 a1_3) ∧ w31.cell? (ad233.add ((x5_2).toNat * 2)) = some (.int .u8 ((rd_T49 l0_2 x5_2).f0)) ∧ w31.cell? ⟨(ad233.add ((x5_2).toNat * 2)).block, (ad233.add ((x5_2).toNat * 2)).off + 1, none⟩ = some (.slice A233_1 ((rd_T49 l0_2 x5_2).f1).length c233_1) ∧ w31.cell? (ad234.add ((x5_2).toNat * 2)) = some (.int .u8 ((rd_T49 l1_2 x5_2).f0)) ∧ w31.cell? ⟨(ad234.add ((x5_2).toNat * 2)).block, (ad234.add ((x5_2).toNat * 2)).off + 1, none⟩ = some (.slice A234_1 ((rd_T49 l1_2 x5_2).f1).length c234_1) := hS_
                  refine norm_ (a' := ?_) ?_ ?_
                  rotate_left
                  · simp only [putAll, Act.put, List.setIfInBounds_toArray, List.set_cons_zero, List.set_cons_succ]
                    rfl
                  refine one_ (i := 12) (N := none) #[true, true, true, true, true, true, true, true, true, true, true, true, true, false] rfl rfl (one_of HT_.out (by kernel_rfl)) (by decide) (fun K hK => ?_)
                  have hs32 : w31.cell? ⟨gb235, 0, none⟩ = some (.int .u8 0) := (blk_cell BK235.out 0).trans rfl
                  have hfs32 := blk_frozen BK235.out 0
                  have hns32_0 := NB231_235.out
                  have hns32_1 := NB232_235.out
                  have hns32_3 := NB236_235.out
                  have hms32_0 := NB235_231.out
                  have hms32_1 := NB235_232.out
                  have hms32_3 := NB235_236.out
                  have hs33 : w31.cell? ⟨gb235, 1, none⟩ = some (.slice none 0 0) := (blk_cell BK235.out 1).trans rfl
                  have hfs33 := blk_frozen BK235.out 1
                  have hns33_0 := NB231_235.out
                  have hns33_1 := NB232_235.out
                  have hns33_3 := NB236_235.out
                  have hms33_0 := NB235_231.out
                  have hms33_1 := NB235_232.out
                  have hms33_3 := NB235_236.out
                  refine skip_ (w1 := ?_) (by rfl) rfl ?_ ?_
                  rotate_left
                  · go_simp
                    rfl
                  refine hK.out _ _ ⟨((cell_far (p := ⟨gb235, _, none⟩) NB231_235.out _).trans (((cell_far (p := ⟨gb235, _, none⟩) NB231_235.out _).trans (hHeld.1)))), ((cell_far (p := ⟨gb235, _, none⟩) NB231_235.out _).trans (((cell_far (p := ⟨gb235, _, none⟩) NB231_235.out _).trans (hHeld.2.1)))), ((cell_far (p := ⟨gb235, _, none⟩) NB231_235.out _).trans (((cell_far (p := ⟨gb235, _, none⟩) NB231_235.out _).trans (hHeld.2.2.1)))), ((cell_far (p := ⟨gb235, _, none⟩) NB231_235.out _).trans (((cell_far (p := ⟨gb235, _, none⟩) NB231_235.out _).trans (hHeld.2.2.2.1)))), ((cell_far (p := ⟨gb235, _, none⟩) NB232_235.out _).trans (((cell_far (p := ⟨gb235, _, none⟩) NB232_235.out _).trans (hHeld.2.2.2.2.1)))), ((cell_far (p := ⟨gb235, _, none⟩) NB232_235.out _).trans (((cell_far (p := ⟨gb235, _, none⟩) NB232_235.out _).trans (hHeld.2.2.2.2.2.1)))), ((cell_far (p := ⟨gb235, _, none⟩) NB232_235.out _).trans (((cell_far (p := ⟨gb235, _, none⟩) NB232_235.out _).trans (hHeld.2.2.2.2.2.2.1)))), ((cell_far (p := ⟨gb235, _, none⟩) NB232_235.out _).trans (((cell_far (p := ⟨gb235, _, none⟩) NB232_235.out _).trans (hHeld.2.2.2.2.2.2.2.1)))), ((cell_far (p := ⟨gb235, _, none⟩) (by first | exact Nat.ne_of_lt (Nat.lt_of_lt_of_le (by have := World.block_lt_of_cell? _ _ hw233_0; first | rwa [add_block] at this | exact this) GW235.out) | (rw [add_block]; exact Nat.ne_of_lt (Nat.lt_of_lt_of_le (by have := World.block_lt_of_cell? _ _ hw233_0; first | rwa [add_block] at this | exact this) GW235.out)) | (show (Addr.add _ _).block ≠ _; rw [add_block]; exact Nat.ne_of_lt (Nat.lt_of_lt_of_le (by have := World.block_lt_of_cell? _ _ hw233_0; first | rwa [add_block] at this | exact this) GW235.out)) | (dsimp only; exact Nat.ne_of_lt (Nat.lt_of_lt_of_le (by have := World.block_lt_of_cell? _ _ hw233_0; first | rwa [add_block] at this | exact this) GW235.out))) _).trans (((cell_far (p := ⟨gb235, _, none⟩) (by first | exact Nat.ne_of_lt (Nat.lt_of_lt_of_le (by have := World.block_lt_of_cell? _ _ hw233_0; first | rwa [add_block] at this | exact this) GW235.out) | (rw [add_block]; exact Nat.ne_of_lt (Nat.lt_of_lt_of_le (by have := World.block_lt_of_cell? _ _ hw233_0; first | rwa [add_block] at this | exact this) GW235.out)) | (show (Addr.add _ _).block ≠ _; rw [add_block]; exact Nat.ne_of_lt (Nat.lt_of_lt_of_le (by have := World.block_lt_of_cell? _ _ hw233_0; first | rwa [add_block] at this | exact this) GW235.out)) | (dsimp only; exact Nat.ne_of_lt (Nat.lt_of_lt_of_le (by have := World.block_lt_of_cell? _ _ hw233_0; first | rwa [add_block] at this | exact this) GW235.out))) _).trans (hHeld.2.2.2.2.2.2.2.2.1)))), ((cell_far (p := ⟨gb235, _, none⟩) (by first | exact Nat.ne_of_lt (Nat.lt_of_lt_of_le (by have := World.block_lt_of_cell? _ _ hw233_1; first | rwa [add_block] at this | exact this) GW235.out) | (rw [add_block]; exact Nat.ne_of_lt (Nat.lt_of_lt_of_le (by have := World.block_lt_of_cell? _ _ hw233_1; first | rwa [add_block] at this | exact this) GW235.out)) | (show (Addr.add _ _).block ≠ _; rw [add_block]; exact Nat.ne_of_lt (Nat.lt_of_lt_of_le (by have := World.block_lt_of_cell? _ _ hw233_1; first | rwa [add_block] at this | exact this) GW235.out)) | (dsimp only; exact Nat.ne_of_lt (Nat.lt_of_lt_of_le (by have := World.block_lt_of_cell? _ _ hw233_1; first | rwa [add_block] at this | exact this) GW235.out))) _).trans (((cell_far (p := ⟨gb235, _, none⟩) (by first | exact Nat.ne_of_lt (Nat.lt_of_lt_of_le (by have := World.block_lt_of_cell? _ _ hw233_1; first | rwa [add_block] at this | exact this) GW235.out) | (rw [add_block]; exact Nat.ne_of_lt (Nat.lt_of_lt_of_le (by have := World.block_lt_of_cell? _ _ hw233_1; first | rwa [add_block] at this | exact this) GW235.out)) | (show (Addr.add _ _).block ≠ _; rw [add_block]; exact Nat.ne_of_lt (Nat.lt_of_lt_of_le (by have := World.block_lt_of_cell? _ _ hw233_1; first | rwa [add_block] at this | exact this) GW235.out)) | (dsimp only; exact Nat.ne_of_lt (Nat.lt_of_lt_of_le (by have := World.block_lt_of_cell? _ _ hw233_1; first | rwa [add_block] at this | exact this) GW235.out))) _).trans (hHeld.2.2.2.2.2.2.2.2.2.1)))), ((cell_far (p := ⟨gb235, _, none⟩) (by first | exact Nat.ne_of_lt (Nat.lt_of_lt_of_le (by have := World.block_lt_of_cell? _ _ hw234_0; first | rwa [add_block] at this | exact this) GW235.out) | (rw [add_block]; exact Nat.ne_of_lt (Nat.lt_of_lt_of_le (by have := World.block_lt_of_cell? _ _ hw234_0; first | rwa [add_block] at this | exact this) GW235.out)) | (show (Addr.add _ _).block ≠ _; rw [add_block]; exact Nat.ne_of_lt (Nat.lt_of_lt_of_le (by have := World.block_lt_of_cell? _ _ hw234_0; first | rwa [add_block] at this | exact this) GW235.out)) | (dsimp only; exact Nat.ne_of_lt (Nat.lt_of_lt_of_le (by have := World.block_lt_of_cell? _ _ hw234_0; first | rwa [add_block] at this | exact this) GW235.out))) _).trans (((cell_far (p := ⟨gb235, _, none⟩) (by first | exact Nat.ne_of_lt (Nat.lt_of_lt_of_le (by have := World.block_lt_of_cell? _ _ hw234_0; first | rwa [add_block] at this | exact this) GW235.out) | (rw [add_block]; exact Nat.ne_of_lt (Nat.lt_of_lt_of_le (by have := World.block_lt_of_cell? _ _ hw234_0; first | rwa [add_block] at this | exact this) GW235.out)) | (show (Addr.add _ _).block ≠ _; rw [add_block]; exact Nat.ne_of_lt (Nat.lt_of_lt_of_le (by have := World.block_lt_of_cell? _ _ hw234_0; first | rwa [add_block] at this | exact this) GW235.out)) | (dsimp only; exact Nat.ne_of_lt (Nat.lt_of_lt_of_le (by have := World.block_lt_of_cell? _ _ hw234_0; first | rwa [add_block] at this | exact this) GW235.out))) _).trans (hHeld.2.2.2.2.2.2.2.2.2.2.1)))), ((cell_far (p := ⟨gb235, _, none⟩) (by first | exact Nat.ne_of_lt (Nat.lt_of_lt_of_le (by have := World.block_lt_of_cell? _ _ hw234_1; first | rwa [add_block] at this | exact this) GW235.out) | (rw [add_block]; exact Nat.ne_of_lt (Nat.lt_of_lt_of_le (by have := World.block_lt_of_cell? _ _ hw234_1; first | rwa [add_block] at this | exact this) GW235.out)) | (show (Addr.add _ _).block ≠ _; rw [add_block]; exact Nat.ne_of_lt (Nat.lt_of_lt_of_le (by have := World.block_lt_of_cell? _ _ hw234_1; first | rwa [add_block] at this | exact this) GW235.out)) | (dsimp only; exact Nat.ne_of_lt (Nat.lt_of_lt_of_le (by have := World.block_lt_of_cell? _ _ hw234_1; first | rwa [add_block] at this | exact this) GW235.out))) _).trans (((cell_far (p := ⟨gb235, _, none⟩) (by first | exact Nat.ne_of_lt (Nat.lt_of_lt_of_le (by have := World.block_lt_of_cell? _ _ hw234_1; first | rwa [add_block] at this | exact this) GW235.out) | (rw [add_block]; exact Nat.ne_of_lt (Nat.lt_of_lt_of_le (by have := World.block_lt_of_cell? _ _ hw234_1; first | rwa [add_block] at this | exact this) GW235.out)) | (show (Addr.add _ _).block ≠ _; rw [add_block]; exact Nat.ne_of_lt (Nat.lt_of_lt_of_le (by have := World.block_lt_of_cell? _ _ hw234_1; first | rwa [add_block] at this | exact this) GW235.out)) | (dsimp only; exact Nat.ne_of_lt (Nat.lt_of_lt_of_le (by have := World.block_lt_of_cell? _ _ hw234_1; first | rwa [add_block] at this | exact this) GW235.out))) _).trans (hHeld.2.2.2.2.2.2.2.2.2.2.2))))⟩ (fun hHeld => ?_)
                  clear hK K
                  refine one_ (i := 13) (N := none) #[true, true, true, true, true, true, true, true, true, true, true, true, true, true] rfl rfl (one_of HT_.out (by kernel_rfl)) (by decide) (fun K hK => ?_)
                  have hs34 : w31.cell? ⟨gb236, 0, none⟩ = some (.int .u8 0) := (blk_cell BK236.out 0).trans rfl
                  have hfs34 := blk_frozen BK236.out 0
                  have hns34_0 := NB231_236.out
                  have hns34_1 := NB232_236.out
                  have hns34_2 := NB235_236.out
                  have hms34_0 := NB236_231.out
                  have hms34_1 := NB236_232.out
                  have hms34_2 := NB236_235.out
                  have hs35 : w31.cell? ⟨gb236, 1, none⟩ = some (.slice none 0 0) := (blk_cell BK236.out 1).trans rfl
                  have hfs35 := blk_frozen BK236.out 1
                  have hns35_0 := NB231_236.out
                  have hns35_1 := NB232_236.out
                  have hns35_2 := NB235_236.out
                  have hms35_0 := NB236_231.out
                  have hms35_1 := NB236_232.out
                  have hms35_2 := NB236_235.out
                  refine skip_ (w1 := ?_) (by rfl) rfl ?_ ?_
                  rotate_left
                  · go_simp
                    rfl
                  refine hK.out _ _ ⟨((cell_far (p := ⟨gb236, _, none⟩) NB231_236.out _).trans (((cell_far (p := ⟨gb236, _, none⟩) NB231_236.out _).trans (hHeld.1)))), ((cell_far (p := ⟨gb236, _, none⟩) NB231_236.out _).trans (((cell_far (p := ⟨gb236, _, none⟩) NB231_236.out _).trans (hHeld.2.1)))), ((cell_far (p := ⟨gb236, _, none⟩) NB231_236.out _).trans (((cell_far (p := ⟨gb236, _, none⟩) NB231_236.out _).trans (hHeld.2.2.1)))), ((cell_far (p := ⟨gb236, _, none⟩) NB231_236.out _).trans (((cell_far (p := ⟨gb236, _, none⟩) NB231_236.out _).trans (hHeld.2.2.2.1)))), ((cell_far (p := ⟨gb236, _, none⟩) NB232_236.out _).trans (((cell_far (p := ⟨gb236, _, none⟩) NB232_236.out _).trans (hHeld.2.2.2.2.1)))), ((cell_far (p := ⟨gb236, _, none⟩) NB232_236.out _).trans (((cell_far (p := ⟨gb236, _, none⟩) NB232_236.out _).trans (hHeld.2.2.2.2.2.1)))), ((cell_far (p := ⟨gb236, _, none⟩) NB232_236.out _).trans (((cell_far (p := ⟨gb236, _, none⟩) NB232_236.out _).trans (hHeld.2.2.2.2.2.2.1)))), ((cell_far (p := ⟨gb236, _, none⟩) NB232_236.out _).trans (((cell_far (p := ⟨gb236, _, none⟩) NB232_236.out _).trans (hHeld.2.2.2.2.2.2.2.1)))), ((cell_far (p := ⟨gb236, _, none⟩) (by first | exact Nat.ne_of_lt (Nat.lt_of_lt_of_le (by have := World.block_lt_of_cell? _ _ hw233_0; first | rwa [add_block] at this | exact this) GW236.out) | (rw [add_block]; exact Nat.ne_of_lt (Nat.lt_of_lt_of_le (by have := World.block_lt_of_cell? _ _ hw233_0; first | rwa [add_block] at this | exact this) GW236.out)) | (show (Addr.add _ _).block ≠ _; rw [add_block]; exact Nat.ne_of_lt (Nat.lt_of_lt_of_le (by have := World.block_lt_of_cell? _ _ hw233_0; first | rwa [add_block] at this | exact this) GW236.out)) | (dsimp only; exact Nat.ne_of_lt (Nat.lt_of_lt_of_le (by have := World.block_lt_of_cell? _ _ hw233_0; first | rwa [add_block] at this | exact this) GW236.out))) _).trans (((cell_far (p := ⟨gb236, _, none⟩) (by first | exact Nat.ne_of_lt (Nat.lt_of_lt_of_le (by have := World.block_lt_of_cell? _ _ hw233_0; first | rwa [add_block] at this | exact this) GW236.out) | (rw [add_block]; exact Nat.ne_of_lt (Nat.lt_of_lt_of_le (by have := World.block_lt_of_cell? _ _ hw233_0; first | rwa [add_block] at this | exact this) GW236.out)) | (show (Addr.add _ _).block ≠ _; rw [add_block]; exact Nat.ne_of_lt (Nat.lt_of_lt_of_le (by have := World.block_lt_of_cell? _ _ hw233_0; first | rwa [add_block] at this | exact this) GW236.out)) | (dsimp only; exact Nat.ne_of_lt (Nat.lt_of_lt_of_le (by have := World.block_lt_of_cell? _ _ hw233_0; first | rwa [add_block] at this | exact this) GW236.out))) _).trans (hHeld.2.2.2.2.2.2.2.2.1)))), ((cell_far (p := ⟨gb236, _, none⟩) (by first | exact Nat.ne_of_lt (Nat.lt_of_lt_of_le (by have := World.block_lt_of_cell? _ _ hw233_1; first | rwa [add_block] at this | exact this) GW236.out) | (rw [add_block]; exact Nat.ne_of_lt (Nat.lt_of_lt_of_le (by have := World.block_lt_of_cell? _ _ hw233_1; first | rwa [add_block] at this | exact this) GW236.out)) | (show (Addr.add _ _).block ≠ _; rw [add_block]; exact Nat.ne_of_lt (Nat.lt_of_lt_of_le (by have := World.block_lt_of_cell? _ _ hw233_1; first | rwa [add_block] at this | exact this) GW236.out)) | (dsimp only; exact Nat.ne_of_lt (Nat.lt_of_lt_of_le (by have := World.block_lt_of_cell? _ _ hw233_1; first | rwa [add_block] at this | exact this) GW236.out))) _).trans (((cell_far (p := ⟨gb236, _, none⟩) (by first | exact Nat.ne_of_lt (Nat.lt_of_lt_of_le (by have := World.block_lt_of_cell? _ _ hw233_1; first | rwa [add_block] at this | exact this) GW236.out) | (rw [add_block]; exact Nat.ne_of_lt (Nat.lt_of_lt_of_le (by have := World.block_lt_of_cell? _ _ hw233_1; first | rwa [add_block] at this | exact this) GW236.out)) | (show (Addr.add _ _).block ≠ _; rw [add_block]; exact Nat.ne_of_lt (Nat.lt_of_lt_of_le (by have := World.block_lt_of_cell? _ _ hw233_1; first | rwa [add_block] at this | exact this) GW236.out)) | (dsimp only; exact Nat.ne_of_lt (Nat.lt_of_lt_of_le (by have := World.block_lt_of_cell? _ _ hw233_1; first | rwa [add_block] at this | exact this) GW236.out))) _).trans (hHeld.2.2.2.2.2.2.2.2.2.1)))), ((cell_far (p := ⟨gb236, _, none⟩) (by first | exact Nat.ne_of_lt (Nat.lt_of_lt_of_le (by have := World.block_lt_of_cell? _ _ hw234_0; first | rwa [add_block] at this | exact this) GW236.out) | (rw [add_block]; exact Nat.ne_of_lt (Nat.lt_of_lt_of_le (by have := World.block_lt_of_cell? _ _ hw234_0; first | rwa [add_block] at this | exact this) GW236.out)) | (show (Addr.add _ _).block ≠ _; rw [add_block]; exact Nat.ne_of_lt (Nat.lt_of_lt_of_le (by have := World.block_lt_of_cell? _ _ hw234_0; first | rwa [add_block] at this | exact this) GW236.out)) | (dsimp only; exact Nat.ne_of_lt (Nat.lt_of_lt_of_le (by have := World.block_lt_of_cell? _ _ hw234_0; first | rwa [add_block] at this | exact this) GW236.out))) _).trans (((cell_far (p := ⟨gb236, _, none⟩) (by first | exact Nat.ne_of_lt (Nat.lt_of_lt_of_le (by have := World.block_lt_of_cell? _ _ hw234_0; first | rwa [add_block] at this | exact this) GW236.out) | (rw [add_block]; exact Nat.ne_of_lt (Nat.lt_of_lt_of_le (by have := World.block_lt_of_cell? _ _ hw234_0; first | rwa [add_block] at this | exact this) GW236.out)) | (show (Addr.add _ _).block ≠ _; rw [add_block]; exact Nat.ne_of_lt (Nat.lt_of_lt_of_le (by have := World.block_lt_of_cell? _ _ hw234_0; first | rwa [add_block] at this | exact this) GW236.out)) | (dsimp only; exact Nat.ne_of_lt (Nat.lt_of_lt_of_le (by have := World.block_lt_of_cell? _ _ hw234_0; first | rwa [add_block] at this | exact this) GW236.out))) _).trans (hHeld.2.2.2.2.2.2.2.2.2.2.1)))), ((cell_far (p := ⟨gb236, _, none⟩) (by first | exact Nat.ne_of_lt (Nat.lt_of_lt_of_le (by have := World.block_lt_of_cell? _ _ hw234_1; first | rwa [add_block] at this | exact this) GW236.out) | (rw [add_block]; exact Nat.ne_of_lt (Nat.lt_of_lt_of_le (by have := World.block_lt_of_cell? _ _ hw234_1; first | rwa [add_block] at this | exact this) GW236.out)) | (show (Addr.add _ _).block ≠ _; rw [add_block]; exact Nat.ne_of_lt (Nat.lt_of_lt_of_le (by have := World.block_lt_of_cell? _ _ hw234_1; first | rwa [add_block] at this | exact this) GW236.out)) | (dsimp only; exact Nat.ne_of_lt (Nat.lt_of_lt_of_le (by have := World.block_lt_of_cell? _ _ hw234_1; first | rwa [add_block] at this | exact this) GW236.out))) _).trans (((cell_far (p := ⟨gb236, _, none⟩) (by first | exact Nat.ne_of_lt (Nat.lt_of_lt_of_le (by have := World.block_lt_of_cell? _ _ hw234_1; first | rwa [add_block] at this | exact this) GW236.out) | (rw [add_block]; exact Nat.ne_of_lt (Nat.lt_of_lt_of_le (by have := World.block_lt_of_cell? _ _ hw234_1; first | rwa [add_block] at this | exact this) GW236.out)) | (show (Addr.add _ _).block ≠ _; rw [add_block]; exact Nat.ne_of_lt (Nat.lt_of_lt_of_le (by have := World.block_lt_of_cell? _ _ hw234_1; first | rwa [add_block] at this | exact this) GW236.out)) | (dsimp only; exact Nat.ne_of_lt (Nat.lt_of_lt_of_le (by have := World.block_lt_of_cell? _ _ hw234_1; first | rwa [add_block] at this | exact this) GW236.out))) _).trans (hHeld.2.2.2.2.2.2.2.2.2.2.2))))⟩ (fun hHeld => ?_)
                  clear hK K
                  refine done_ (done_of HT_.out (by kernel_rfl)) ?_
                  go_upto_region 7 with (fail)
                  go_cut [67] (fun v67 wc => ∃ (kq : Nat) (x67_24 : Bool), v67 = .bool x67_24 ∧ Aside0 (vivariumlaw11_alike.j2 kq x5_2 x67_24 a0_0 a0_1 l0_2 a0_3 a1_0 a1_1 l1_2 a1_3 ((rd_T49 l0_2 x5_2).f0) ((rd_T49 l0_2 x5_2).f1) ((rd_T49 l1_2 x5_2).f0) ((rd_T49 l1_2 x5_2).f1) = some r) ∧ Aside0 (kq ≤ k2) ∧ Aside0 (wc.heap[gb231]? = some (.cells #[.int .i64 a0_0, .int .i64 a0_1, (.slice (some ad233) l0_2.length c0_2), .int .i64 a0_3] 24 (0, 0))) ∧ Aside0 (wc.heap[gb232]? = some (.cells #[.int .i64 a1_0, .int .i64 a1_1, (.slice (some ad234) l1_2.length c1_2), .int .i64 a1_3] 24 (0, 0))) ∧ Aside0 (wc.heap[gb235]? = some (.cells #[.int .u8 ((rd_T49 l0_2 x5_2).f0), (.slice A233_1 ((rd_T49 l0_2 x5_2).f1).length c233_1)] 49 (0, 0))) ∧ Aside0 (wc.heap[gb236]? = some (.cells #[.int .u8 ((rd_T49 l1_2 x5_2).f0), (.slice A234_1 ((rd_T49 l1_2 x5_2).f1).length c234_1)] 49 (0, 0))) ∧ Aside0 (Below w.heap.size w wc))
                  case first =>
                    have H := HC25.out
                    clear HC25
                    by_cases c36 : ((rd_T49 l0_2 x5_2).f0) = ((rd_T49 l1_2 x5_2).f0)
                    · rw [if_pos c36] at H
                      have c36b0 : (((rd_T49 l0_2 x5_2).f0) == ((rd_T49 l1_2 x5_2).f0)) = true := beq_iff_eq.mpr c36
                      have c36b1 : (((rd_T49 l0_2 x5_2).f0) != ((rd_T49 l1_2 x5_2).f0)) = false := bne_eq_false_iff_eq.mpr c36
                      clear c36
                      (first | rw [c36b0] | (simp only [i64_w, i32_w]; rw [c36b0]) | skip)
                      have H' := Aside0.mk H
                      clear H
                      have hnb37 := NB235_231.out
                      have hnc37 := NB231_235.out
                      have hnb38 := NB235_232.out
                      have hnc38 := NB232_235.out
                      have hnb39 := NB235_236.out
                      have hnc39 := NB236_235.out
                      have hcz40_0 : w31.cell? ⟨gb235, 0, none⟩ = some (.int .u8 0) := (blk_cell BK235.out 0).trans rfl
                      have hcz40_1 : w31.cell? ⟨gb235, 1, none⟩ = some (.slice none 0 0) := (blk_cell BK235.out 1).trans rfl
                      have hfz40_0 := blk_frozen BK235.out 0
                      have hfz40_1 := blk_frozen BK235.out 1
                      have hnb41 := NB236_231.out
                      have hnc41 := NB231_236.out
                      have hnb42 := NB236_232.out
                      have hnc42 := NB232_236.out
                      have hcz43_0 : w31.cell? ⟨gb236, 0, none⟩ = some (.int .u8 0) := (blk_cell BK236.out 0).trans rfl
                      have hcz43_1 : w31.cell? ⟨gb236, 1, none⟩ = some (.slice none 0 0) := (blk_cell BK236.out 1).trans rfl
                      have hfz43_0 := blk_frozen BK236.out 0
                      have hfz43_1 := blk_frozen BK236.out 1
                      go_wp2
                      go_meet
                      case rel => exact ⟨_, (((((rd_T49 l0_2 x5_2).f1).length : Int) != (((rd_T49 l1_2 x5_2).f1).length : Int))), (by first | rfl | (simp; done) | (simp [*]; done) | (simp [wrap64]; done)), H', ⟨by have := HJ2.out; have := HK2.out; first | omega | exact Nat.le_refl _⟩, ⟨by (with_reducible repeat (first | refine blk_drewN ?_ _ | refine blk_drew ?_ | refine blk_alloc ?_ _)); refine blk_far ?_ NB231_236.out _; (with_reducible repeat (first | refine blk_drewN ?_ _ | refine blk_drew ?_ | refine blk_alloc ?_ _)); refine blk_far ?_ NB231_236.out _; (with_reducible repeat (first | refine blk_drewN ?_ _ | refine blk_drew ?_ | refine blk_alloc ?_ _)); refine blk_far ?_ NB231_235.out _; (with_reducible repeat (first | refine blk_drewN ?_ _ | refine blk_drew ?_ | refine blk_alloc ?_ _)); refine blk_far ?_ NB231_235.out _; (with_reducible repeat (first | refine blk_drewN ?_ _ | refine blk_drew ?_ | refine blk_alloc ?_ _)); exact BK231.out⟩, ⟨by (with_reducible repeat (first | refine blk_drewN ?_ _ | refine blk_drew ?_ | refine blk_alloc ?_ _)); refine blk_far ?_ NB232_236.out _; (with_reducible repeat (first | refine blk_drewN ?_ _ | refine blk_drew ?_ | refine blk_alloc ?_ _)); refine blk_far ?_ NB232_236.out _; (with_reducible repeat (first | refine blk_drewN ?_ _ | refine blk_drew ?_ | refine blk_alloc ?_ _)); refine blk_far ?_ NB232_235.out _; (with_reducible repeat (first | refine blk_drewN ?_ _ | refine blk_drew ?_ | refine blk_alloc ?_ _)); refine blk_far ?_ NB232_235.out _; (with_reducible repeat (first | refine blk_drewN ?_ _ | refine blk_drew ?_ | refine blk_alloc ?_ _)); exact BK232.out⟩, ⟨by (with_reducible repeat (first | refine blk_drewN ?_ _ | refine blk_drew ?_ | refine blk_alloc ?_ _)); refine blk_far ?_ NB235_236.out _; (with_reducible repeat (first | refine blk_drewN ?_ _ | refine blk_drew ?_ | refine blk_alloc ?_ _)); refine blk_far ?_ NB235_236.out _; (with_reducible repeat (first | refine blk_drewN ?_ _ | refine blk_drew ?_ | refine blk_alloc ?_ _)); refine blk_put (cs := #[.int .u8 ((rd_T49 l0_2 x5_2).f0), .slice none 0 0]) ?_ 1 _ rfl; (with_reducible repeat (first | refine blk_drewN ?_ _ | refine blk_drew ?_ | refine blk_alloc ?_ _)); refine blk_put (cs := #[.int .u8 0, .slice none 0 0]) ?_ 0 _ rfl; (with_reducible repeat (first | refine blk_drewN ?_ _ | refine blk_drew ?_ | refine blk_alloc ?_ _)); exact BK235.out⟩, ⟨by (with_reducible repeat (first | refine blk_drewN ?_ _ | refine blk_drew ?_ | refine blk_alloc ?_ _)); refine blk_put (cs := #[.int .u8 ((rd_T49 l1_2 x5_2).f0), .slice none 0 0]) ?_ 1 _ rfl; (with_reducible repeat (first | refine blk_drewN ?_ _ | refine blk_drew ?_ | refine blk_alloc ?_ _)); refine blk_put (cs := #[.int .u8 0, .slice none 0 0]) ?_ 0 _ rfl; (with_reducible repeat (first | refine blk_drewN ?_ _ | refine blk_drew ?_ | refine blk_alloc ?_ _)); refine blk_far ?_ NB236_235.out _; (with_reducible repeat (first | refine blk_drewN ?_ _ | refine blk_drew ?_ | refine blk_alloc ?_ _)); refine blk_far ?_ NB236_235.out _; (with_reducible repeat (first | refine blk_drewN ?_ _ | refine blk_drew ?_ | refine blk_alloc ?_ _)); exact BK236.out⟩, ⟨by repeat (first | (with_reducible first | exact HB.out | apply below_alloc | apply pw_below_drewN | apply below_drew1 | refine below_set ?_ GE231.out | refine below_set ?_ GE232.out | refine below_set ?_ GE235.out | refine below_set ?_ GE236.out) | exact HB.out)⟩⟩
                    · rw [if_neg c36] at H
                      have c36b0 : (((rd_T49 l0_2 x5_2).f0) == ((rd_T49 l1_2 x5_2).f0)) = false := beq_eq_false_iff_ne.mpr c36
                      have c36b1 : (((rd_T49 l0_2 x5_2).f0) != ((rd_T49 l1_2 x5_2).f0)) = true := bne_iff_ne.mpr c36
                      (first | rw [c36b0] | (simp only [i64_w, i32_w]; rw [c36b0]) | skip)
                      have H' := Aside0.mk H
                      clear H
                      have hnb44 := NB235_231.out
                      have hnc44 := NB231_235.out
                      have hnb45 := NB235_232.out
                      have hnc45 := NB232_235.out
                      have hnb46 := NB235_236.out
                      have hnc46 := NB236_235.out
                      have hcz47_0 : w31.cell? ⟨gb235, 0, none⟩ = some (.int .u8 0) := (blk_cell BK235.out 0).trans rfl
                      have hcz47_1 : w31.cell? ⟨gb235, 1, none⟩ = some (.slice none 0 0) := (blk_cell BK235.out 1).trans rfl
                      have hfz47_0 := blk_frozen BK235.out 0
                      have hfz47_1 := blk_frozen BK235.out 1
                      have hnb48 := NB236_231.out
                      have hnc48 := NB231_236.out
                      have hnb49 := NB236_232.out
                      have hnc49 := NB232_236.out
                      have hcz50_0 : w31.cell? ⟨gb236, 0, none⟩ = some (.int .u8 0) := (blk_cell BK236.out 0).trans rfl
                      have hcz50_1 : w31.cell? ⟨gb236, 1, none⟩ = some (.slice none 0 0) := (blk_cell BK236.out 1).trans rfl
                      have hfz50_0 := blk_frozen BK236.out 0
                      have hfz50_1 := blk_frozen BK236.out 1
                      go_wp2
                      go_meet
                      case rel => exact ⟨_, (true), (by first | rfl | (simp; done) | (simp [*]; done) | (simp [wrap64]; done)), H', ⟨by have := HJ2.out; have := HK2.out; first | omega | exact Nat.le_refl _⟩, ⟨by (with_reducible repeat (first | refine blk_drewN ?_ _ | refine blk_drew ?_ | refine blk_alloc ?_ _)); refine blk_far ?_ NB231_236.out _; (with_reducible repeat (first | refine blk_drewN ?_ _ | refine blk_drew ?_ | refine blk_alloc ?_ _)); refine blk_far ?_ NB231_236.out _; (with_reducible repeat (first | refine blk_drewN ?_ _ | refine blk_drew ?_ | refine blk_alloc ?_ _)); refine blk_far ?_ NB231_235.out _; (with_reducible repeat (first | refine blk_drewN ?_ _ | refine blk_drew ?_ | refine blk_alloc ?_ _)); refine blk_far ?_ NB231_235.out _; (with_reducible repeat (first | refine blk_drewN ?_ _ | refine blk_drew ?_ | refine blk_alloc ?_ _)); exact BK231.out⟩, ⟨by (with_reducible repeat (first | refine blk_drewN ?_ _ | refine blk_drew ?_ | refine blk_alloc ?_ _)); refine blk_far ?_ NB232_236.out _; (with_reducible repeat (first | refine blk_drewN ?_ _ | refine blk_drew ?_ | refine blk_alloc ?_ _)); refine blk_far ?_ NB232_236.out _; (with_reducible repeat (first | refine blk_drewN ?_ _ | refine blk_drew ?_ | refine blk_alloc ?_ _)); refine blk_far ?_ NB232_235.out _; (with_reducible repeat (first | refine blk_drewN ?_ _ | refine blk_drew ?_ | refine blk_alloc ?_ _)); refine blk_far ?_ NB232_235.out _; (with_reducible repeat (first | refine blk_drewN ?_ _ | refine blk_drew ?_ | refine blk_alloc ?_ _)); exact BK232.out⟩, ⟨by (with_reducible repeat (first | refine blk_drewN ?_ _ | refine blk_drew ?_ | refine blk_alloc ?_ _)); refine blk_far ?_ NB235_236.out _; (with_reducible repeat (first | refine blk_drewN ?_ _ | refine blk_drew ?_ | refine blk_alloc ?_ _)); refine blk_far ?_ NB235_236.out _; (with_reducible repeat (first | refine blk_drewN ?_ _ | refine blk_drew ?_ | refine blk_alloc ?_ _)); refine blk_put (cs := #[.int .u8 ((rd_T49 l0_2 x5_2).f0), .slice none 0 0]) ?_ 1 _ rfl; (with_reducible repeat (first | refine blk_drewN ?_ _ | refine blk_drew ?_ | refine blk_alloc ?_ _)); refine blk_put (cs := #[.int .u8 0, .slice none 0 0]) ?_ 0 _ rfl; (with_reducible repeat (first | refine blk_drewN ?_ _ | refine blk_drew ?_ | refine blk_alloc ?_ _)); exact BK235.out⟩, ⟨by (with_reducible repeat (first | refine blk_drewN ?_ _ | refine blk_drew ?_ | refine blk_alloc ?_ _)); refine blk_put (cs := #[.int .u8 ((rd_T49 l1_2 x5_2).f0), .slice none 0 0]) ?_ 1 _ rfl; (with_reducible repeat (first | refine blk_drewN ?_ _ | refine blk_drew ?_ | refine blk_alloc ?_ _)); refine blk_put (cs := #[.int .u8 0, .slice none 0 0]) ?_ 0 _ rfl; (with_reducible repeat (first | refine blk_drewN ?_ _ | refine blk_drew ?_ | refine blk_alloc ?_ _)); refine blk_far ?_ NB236_235.out _; (with_reducible repeat (first | refine blk_drewN ?_ _ | refine blk_drew ?_ | refine blk_alloc ?_ _)); refine blk_far ?_ NB236_235.out _; (with_reducible repeat (first | refine blk_drewN ?_ _ | refine blk_drew ?_ | refine blk_alloc ?_ _)); exact BK236.out⟩, ⟨by repeat (first | (with_reducible first | exact HB.out | apply below_alloc | apply pw_below_drewN | apply below_drew1 | refine below_set ?_ GE231.out | refine below_set ?_ GE232.out | refine below_set ?_ GE235.out | refine below_set ?_ GE236.out) | exact HB.out)⟩⟩
                  case rest =>
                    clear HC25
                    try clear c1
                    try clear c2
                    try clear p2
                    try clear q2
                    try clear hx2
                    try clear c3
                    try clear c4
                    try clear c6
                    try clear c6b0
                    try clear c6b1
                    try clear c7
                    try clear c7b0
                    try clear c7b1
                    try clear c8
                    try clear c8b0
                    try clear c8b1
                    try clear c9
                    try clear c12
                    try clear c15
                    try clear c18
                    try clear c19
                    try clear c21
                    try clear c22
                    try clear c22b0
                    try clear c23
                    try clear c23b0
                    try clear p23
                    try clear q23
                    try clear hx23
                    try clear c24
                    try clear c24b0
                    try clear c26
                    try clear c36
                    try clear c36b0
                    try clear c36b1
                    try clear c37
                    try clear c38
                    try clear c39
                    try clear c41
                    try clear c42
                    try clear c44
                    try clear c45
                    try clear c46
                    try clear c48
                    try clear c49
                    try clear hcz10_0
                    try clear hcz10_1
                    try clear hcz10_2
                    try clear hcz10_3
                    try clear hcz11_0
                    try clear hcz11_1
                    try clear hcz11_2
                    try clear hcz11_3
                    try clear hcz13_0
                    try clear hcz13_1
                    try clear hcz13_2
                    try clear hcz13_3
                    try clear hcz14_0
                    try clear hcz14_1
                    try clear hcz14_2
                    try clear hcz14_3
                    try clear hcz16_0
                    try clear hcz16_1
                    try clear hcz16_2
                    try clear hcz16_3
                    try clear hcz17_0
                    try clear hcz17_1
                    try clear hcz17_2
                    try clear hcz17_3
                    try clear hcz19_0
                    try clear hcz19_1
                    try clear hcz19_2
                    try clear hcz19_3
                    try clear hcz20_0
                    try clear hcz20_1
                    try clear hcz20_2
                    try clear hcz20_3
                    try clear hcz27_0
                    try clear hcz27_1
                    try clear hcz27_2
                    try clear hcz27_3
                    try clear hcz40_0
                    try clear hcz40_1
                    try clear hcz43_0
                    try clear hcz43_1
                    try clear hcz47_0
                    try clear hcz47_1
                    try clear hcz50_0
                    try clear hcz50_1
                    try clear hfz10_0
                    try clear hfz10_1
                    try clear hfz10_2
                    try clear hfz10_3
                    try clear hfz11_0
                    try clear hfz11_1
                    try clear hfz11_2
                    try clear hfz11_3
                    try clear hfz13_0
                    try clear hfz13_1
                    try clear hfz13_2
                    try clear hfz13_3
                    try clear hfz14_0
                    try clear hfz14_1
                    try clear hfz14_2
                    try clear hfz14_3
                    try clear hfz16_0
                    try clear hfz16_1
                    try clear hfz16_2
                    try clear hfz16_3
                    try clear hfz17_0
                    try clear hfz17_1
                    try clear hfz17_2
                    try clear hfz17_3
                    try clear hfz19_0
                    try clear hfz19_1
                    try clear hfz19_2
                    try clear hfz19_3
                    try clear hfz20_0
                    try clear hfz20_1
                    try clear hfz20_2
                    try clear hfz20_3
                    try clear hfz27_0
                    try clear hfz27_1
                    try clear hfz27_2
                    try clear hfz27_3
                    try clear hfz40_0
                    try clear hfz40_1
                    try clear hfz43_0
                    try clear hfz43_1
                    try clear hfz47_0
                    try clear hfz47_1
                    try clear hfz50_0
                    try clear hfz50_1
                    try clear hx233_0
                    try clear hx233_1
                    try clear hx234_0
                    try clear hx234_1
                    try clear p2
                    try clear p233
                    try clear p234
                    try clear q233
                    try clear q234
                    obtain ⟨kq, x67_24, rfl, HA, HJ24, BK231, BK232, BK235, BK236, HB⟩ := hcut
                    cases kq with
                    | zero => exact absurd HA.out (by simp [vivariumlaw11_alike.j2])
                    | succ kj24 =>
                      have H := HA.out
                      clear HA
                      simp only [vivariumlaw11_alike.j2] at H
                      by_cases c51 : x67_24 = true
                      · subst c51
                        have H1 : (some false) = some r := by rw [if_pos rfl] at H; exact H
                        clear H
                        have H := H1
                        clear H1
                        obtain rfl := Option.some.inj H
                        go_wp2
                        go_ret
                        exact ⟨by first | rfl | (simp [errW_none, errW_some] <;> rfl) | (simp [*, errW_none, errW_some] <;> rfl), by repeat (first | (with_reducible first | exact HB.out | apply below_alloc | apply pw_below_drewN | apply below_drew1 | refine below_set ?_ GE231.out | refine below_set ?_ GE232.out | refine below_set ?_ GE235.out | refine below_set ?_ GE236.out) | exact HB.out)⟩
                      · replace c51 := Bool.eq_false_iff.mpr c51
                        subst c51
                        have H1 : (vivariumlaw11_alike.l1 kj24 x5_2 0 a0_0 a0_1 l0_2 a0_3 a1_0 a1_1 l1_2 a1_3 ((rd_T49 l0_2 x5_2).f0) ((rd_T49 l0_2 x5_2).f1) ((rd_T49 l1_2 x5_2).f0) ((rd_T49 l1_2 x5_2).f1)) = some r := by rw [if_neg (show ¬ (false = true) by decide)] at H; exact H
                        clear H
                        have H := H1
                        clear H1
                        have H' := Aside0.mk H
                        clear H
                        go_wp2
                        go_loopg [8] kj24 (fun kq v8 w' => ∃ (x8_4 : Int), v8 = .int .i64 x8_4 ∧ Aside0 (vivariumlaw11_alike.l1 kq x5_2 x8_4 a0_0 a0_1 l0_2 a0_3 a1_0 a1_1 l1_2 a1_3 ((rd_T49 l0_2 x5_2).f0) ((rd_T49 l0_2 x5_2).f1) ((rd_T49 l1_2 x5_2).f0) ((rd_T49 l1_2 x5_2).f1) = some r) ∧ Aside0 (kq ≤ kj24) ∧ Aside0 (w'.heap[gb231]? = some (.cells #[.int .i64 a0_0, .int .i64 a0_1, (.slice (some ad233) l0_2.length c0_2), .int .i64 a0_3] 24 (0, 0))) ∧ Aside0 (w'.heap[gb232]? = some (.cells #[.int .i64 a1_0, .int .i64 a1_1, (.slice (some ad234) l1_2.length c1_2), .int .i64 a1_3] 24 (0, 0))) ∧ Aside0 (w'.heap[gb235]? = some (.cells #[.int .u8 ((rd_T49 l0_2 x5_2).f0), (.slice A233_1 ((rd_T49 l0_2 x5_2).f1).length c233_1)] 49 (0, 0))) ∧ Aside0 (w'.heap[gb236]? = some (.cells #[.int .u8 ((rd_T49 l1_2 x5_2).f0), (.slice A234_1 ((rd_T49 l1_2 x5_2).f1).length c234_1)] 49 (0, 0))) ∧ Aside0 (Below w.heap.size w w'))
                        case atStart => exact ⟨(0), (by first | rfl | (simp; done) | (simp [*]; done) | (simp [wrap64]; done)), H', ⟨Nat.le_refl _⟩, ⟨by (with_reducible repeat (first | refine blk_drewN ?_ _ | refine blk_drew ?_ | refine blk_alloc ?_ _)); exact BK231.out⟩, ⟨by (with_reducible repeat (first | refine blk_drewN ?_ _ | refine blk_drew ?_ | refine blk_alloc ?_ _)); exact BK232.out⟩, ⟨by (with_reducible repeat (first | refine blk_drewN ?_ _ | refine blk_drew ?_ | refine blk_alloc ?_ _)); exact BK235.out⟩, ⟨by (with_reducible repeat (first | refine blk_drewN ?_ _ | refine blk_drew ?_ | refine blk_alloc ?_ _)); exact BK236.out⟩, ⟨by repeat (first | (with_reducible first | exact HB.out | apply below_alloc | apply pw_below_drewN | apply below_drew1 | refine below_set ?_ GE231.out | refine below_set ?_ GE232.out | refine below_set ?_ GE235.out | refine below_set ?_ GE236.out) | exact HB.out)⟩⟩
                        case round =>
                          clear H'
                          try clear c1
                          try clear c2
                          try clear p2
                          try clear q2
                          try clear hx2
                          try clear c3
                          try clear c4
                          try clear c5
                          try clear c6
                          try clear c6b0
                          try clear c6b1
                          try clear c7
                          try clear c7b0
                          try clear c7b1
                          try clear c8
                          try clear c8b0
                          try clear c8b1
                          try clear c9
                          try clear c12
                          try clear c15
                          try clear c18
                          try clear c19
                          try clear c21
                          try clear c22
                          try clear c22b0
                          try clear c23
                          try clear c23b0
                          try clear p23
                          try clear q23
                          try clear hx23
                          try clear c24
                          try clear c24b0
                          try clear c26
                          try clear c36
                          try clear c36b0
                          try clear c36b1
                          try clear c37
                          try clear c38
                          try clear c39
                          try clear c41
                          try clear c42
                          try clear c44
                          try clear c45
                          try clear c46
                          try clear c48
                          try clear c49
                          try clear c51
                          try clear hcz10_0
                          try clear hcz10_1
                          try clear hcz10_2
                          try clear hcz10_3
                          try clear hcz11_0
                          try clear hcz11_1
                          try clear hcz11_2
                          try clear hcz11_3
                          try clear hcz13_0
                          try clear hcz13_1
                          try clear hcz13_2
                          try clear hcz13_3
                          try clear hcz14_0
                          try clear hcz14_1
                          try clear hcz14_2
                          try clear hcz14_3
                          try clear hcz16_0
                          try clear hcz16_1
                          try clear hcz16_2
                          try clear hcz16_3
                          try clear hcz17_0
                          try clear hcz17_1
                          try clear hcz17_2
                          try clear hcz17_3
                          try clear hcz19_0
                          try clear hcz19_1
                          try clear hcz19_2
                          try clear hcz19_3
                          try clear hcz20_0
                          try clear hcz20_1
                          try clear hcz20_2
                          try clear hcz20_3
                          try clear hcz27_0
                          try clear hcz27_1
                          try clear hcz27_2
                          try clear hcz27_3
                          try clear hcz40_0
                          try clear hcz40_1
                          try clear hcz43_0
                          try clear hcz43_1
                          try clear hcz47_0
                          try clear hcz47_1
                          try clear hcz50_0
                          try clear hcz50_1
                          try clear hfz10_0
                          try clear hfz10_1
                          try clear hfz10_2
                          try clear hfz10_3
                          try clear hfz11_0
                          try clear hfz11_1
                          try clear hfz11_2
                          try clear hfz11_3
                          try clear hfz13_0
                          try clear hfz13_1
                          try clear hfz13_2
                          try clear hfz13_3
                          try clear hfz14_0
                          try clear hfz14_1
                          try clear hfz14_2
                          try clear hfz14_3
                          try clear hfz16_0
                          try clear hfz16_1
                          try clear hfz16_2
                          try clear hfz16_3
                          try clear hfz17_0
                          try clear hfz17_1
                          try clear hfz17_2
                          try clear hfz17_3
                          try clear hfz19_0
                          try clear hfz19_1
                          try clear hfz19_2
                          try clear hfz19_3
                          try clear hfz20_0
                          try clear hfz20_1
                          try clear hfz20_2
                          try clear hfz20_3
                          try clear hfz27_0
                          try clear hfz27_1
                          try clear hfz27_2
                          try clear hfz27_3
                          try clear hfz40_0
                          try clear hfz40_1
                          try clear hfz43_0
                          try clear hfz43_1
                          try clear hfz47_0
                          try clear hfz47_1
                          try clear hfz50_0
                          try clear hfz50_1
                          try clear hx233_0
                          try clear hx233_1
                          try clear hx234_0
                          try clear hx234_1
                          try clear p2
                          try clear p23
                          try clear p233
                          try clear p234
                          try clear q2
                          try clear q23
                          try clear q233
                          try clear q234
                          obtain ⟨x8_4, rfl, HA, HK4, BK231, BK232, BK235, BK236, HB⟩ := hrel
                          cases gk with
                          | zero => exact absurd HA.out (by simp [vivariumlaw11_alike.l1])
                          | succ k4 =>
                            have H := HA.out
                            clear HA
                            simp only [vivariumlaw11_alike.l1] at H
                            by_cases c52 : x8_4 < (((rd_T49 l0_2 x5_2).f1).length : Int)
                            · rw [if_pos c52] at H
                              have c52b0 : decide (x8_4 < (((rd_T49 l0_2 x5_2).f1).length : Int)) = true := decide_eq_true c52
                              clear c52
                              by_cases c53 : 0 ≤ x8_4
                              · rw [if_pos c53] at H
                                have c53b0 : decide (0 ≤ x8_4) = true := decide_eq_true c53
                                clear c53
                                by_cases c54 : x8_4 < (((rd_T49 l1_2 x5_2).f1).length : Int)
                                · rw [if_pos c54] at H
                                  have c54b0 : decide (x8_4 < (((rd_T49 l1_2 x5_2).f1).length : Int)) = true := decide_eq_true c54
                                  clear c54
                                  by_cases c55 : (rd ((rd_T49 l0_2 x5_2).f1) x8_4) = (rd ((rd_T49 l1_2 x5_2).f1) x8_4)
                                  · rw [if_pos c55] at H
                                    have c55b0 : ((rd ((rd_T49 l0_2 x5_2).f1) x8_4) == (rd ((rd_T49 l1_2 x5_2).f1) x8_4)) = true := beq_iff_eq.mpr c55
                                    have c55b1 : ((rd ((rd_T49 l0_2 x5_2).f1) x8_4) != (rd ((rd_T49 l1_2 x5_2).f1) x8_4)) = false := bne_eq_false_iff_eq.mpr c55
                                    clear c55
                                    have H' := Aside0.mk H
                                    clear H
                                    have hnb56 := NB235_231.out
                                    have hnc56 := NB231_235.out
                                    have hnb57 := NB235_232.out
                                    have hnc57 := NB232_235.out
                                    have hnb58 := NB235_236.out
                                    have hnc58 := NB236_235.out
                                    have hcz59_0 : wr.cell? ⟨gb235, 0, none⟩ = some (.int .u8 ((rd_T49 l0_2 x5_2).f0)) := (blk_cell BK235.out 0).trans rfl
                                    have hcz59_1 : wr.cell? ⟨gb235, 1, none⟩ = some (.slice A233_1 ((rd_T49 l0_2 x5_2).f1).length c233_1) := (blk_cell BK235.out 1).trans rfl
                                    have hfz59_0 := blk_frozen BK235.out 0
                                    have hfz59_1 := blk_frozen BK235.out 1
                                    try go_wp2
                                    have n0_ := Aside0.mk (blk_drew BK231.out)
                                    have n1_ := Aside0.mk (blk_drew BK232.out)
                                    have n2_ := Aside0.mk (blk_drew BK235.out)
                                    have n3_ := Aside0.mk (blk_drew BK236.out)
                                    have n4_ := Aside0.mk (below_drew1 HB.out)
                                    clear BK231
                                    clear BK232
                                    clear BK235
                                    clear BK236
                                    clear HB
                                    have BK231 := n0_
                                    have BK232 := n1_
                                    have BK235 := n2_
                                    have BK236 := n3_
                                    have HB := n4_
                                    clear n0_ n1_ n2_ n3_ n4_
                                    have p237 : 0 ≤ (x8_4 : Int) := of_decide_eq_true (by first | (with_reducible assumption) | assumption)
                                    have q237 : x8_4 < (((rd_T49 l0_2 x5_2).f1).length : Int) := of_decide_eq_true (by first | (with_reducible assumption) | assumption)
                                    obtain ⟨ad237, e237, hx237_0⟩ := Kd.at_int HR233_1.out x8_4 p237 q237
                                    have hw237_0 := hx237_0
                                    cases e237
                                    replace hx237_0 := (HB.out.cell (World.block_lt_of_cell? w _ hx237_0)).trans hx237_0
                                    replace p237 := eq_true p237
                                    replace q237 := eq_true q237
                                    have p238 : 0 ≤ (x8_4 : Int) := of_decide_eq_true (by first | (with_reducible assumption) | assumption)
                                    have q238 : x8_4 < (((rd_T49 l1_2 x5_2).f1).length : Int) := of_decide_eq_true (by first | (with_reducible assumption) | assumption)
                                    obtain ⟨ad238, e238, hx238_0⟩ := Kd.at_int HR234_1.out x8_4 p238 q238
                                    have hw238_0 := hx238_0
                                    cases e238
                                    replace hx238_0 := (HB.out.cell (World.block_lt_of_cell? w _ hx238_0)).trans hx238_0
                                    replace p238 := eq_true p238
                                    replace q238 := eq_true q238
                                    refine start_ (n := 11) (S := fun w' => w'.cell? ⟨gb235, 0, none⟩ = some (.int .u8 ((rd_T49 l0_2 x5_2).f0)) ∧ w'.cell? ⟨gb235, 1, none⟩ = some (.slice (some ad237) ((rd_T49 l0_2 x5_2).f1).length c233_1) ∧ w'.cell? ⟨gb236, 0, none⟩ = some (.int .u8 ((rd_T49 l1_2 x5_2).f0)) ∧ w'.cell? ⟨gb236, 1, none⟩ = some (.slice (some ad238) ((rd_T49 l1_2 x5_2).f1).length c234_1) ∧ w'.cell? (ad237.add (x8_4).toNat) = some (.int .i64 (rd ((rd_T49 l0_2 x5_2).f1) x8_4)) ∧ w'.cell? (ad238.add (x8_4).toNat) = some (.int .i64 (rd ((rd_T49 l1_2 x5_2).f1) x8_4))) (ds := []) #[false, false, false, false, false, false, false, false, false, false, false] (by kernel_rfl) rfl rfl ⟨(blk_cell BK235.out 0).trans rfl, (blk_cell BK235.out 1).trans rfl, (blk_cell BK236.out 0).trans rfl, (blk_cell BK236.out 1).trans rfl, ((HB.out.cell (World.block_lt_of_cell? w _ hw237_0)).trans hw237_0), ((HB.out.cell (World.block_lt_of_cell? w _ hw238_0)).trans hw238_0)⟩ (fun hHeld => ?_); refine with_tabW vivariumlaw11_alike.tab12 vivariumlaw11_alike.bits12 (fun HT_ HW_ => ?_)
                                    generalize wr.drew = w60 at BK231 BK232 BK235 BK236 HB hx237_0 hx238_0 hHeld ⊢
                                    refine pure_ (i := 0) (N := some 75) (v := ?_) (a' := ?_) #[true, false, false, false, false, false, false, false, false, false, false] rfl rfl (any_of HT_.out (by kernel_rfl)) (fun _ _ _ h => h) (Or.inl ⟨by rfl, ?_⟩) ?_ ?_
                                    rotate_left
                                    · intro w'
                                      go_simp
                                      with_reducible rfl
                                    rotate_left
                                    · simp only [Act.put, List.setIfInBounds_toArray, List.set_cons_zero, List.set_cons_succ, i64_w, i32_w]
                                      rfl
                                    refine pure_ (i := 2) (N := some 77) (v := ?_) (a' := ?_) #[true, false, true, false, false, false, false, false, false, false, false] rfl rfl (any_of HT_.out (by kernel_rfl)) (fun _ _ _ h => h) (Or.inl ⟨by rfl, ?_⟩) ?_ ?_
                                    rotate_left
                                    · intro w'
                                      go_simp
                                      with_reducible rfl
                                    rotate_left
                                    · simp only [Act.put, List.setIfInBounds_toArray, List.set_cons_zero, List.set_cons_succ, i64_w, i32_w]
                                      rfl
                                    refine pure_ (i := 5) (N := some 80) (v := ?_) (a' := ?_) #[true, false, true, false, false, true, false, false, false, false, false] rfl rfl (any_of HT_.out (by kernel_rfl)) (fun _ _ _ h => h) (Or.inl ⟨by rfl, ?_⟩) ?_ ?_
                                    rotate_left
                                    · intro w'
                                      go_simp
                                      with_reducible rfl
                                    rotate_left
                                    · simp only [Act.put, List.setIfInBounds_toArray, List.set_cons_zero, List.set_cons_succ, i64_w, i32_w]
                                      rfl
                                    refine pure_ (i := 7) (N := some 82) (v := ?_) (a' := ?_) #[true, false, true, false, false, true, false, true, false, false, false] rfl rfl (any_of HT_.out (by kernel_rfl)) (fun _ _ _ h => h) (Or.inl ⟨by rfl, ?_⟩) ?_ ?_
                                    rotate_left
                                    · intro w'
                                      go_simp
                                      with_reducible rfl
                                    rotate_left
                                    · simp only [Act.put, List.setIfInBounds_toArray, List.set_cons_zero, List.set_cons_succ, i64_w, i32_w]
                                      rfl
                                    refine take_ (i := 1) (N := some 76) (v := ?_) (a' := ?_) #[true, true, true, false, false, true, false, true, false, false, false] rfl rfl (take_ofW HT_.out HW_.out (by kernel_rfl)) (fun _ _ _ h => h) (Or.inl ⟨by rfl, ?_⟩) hHeld ?_ ?_
                                    rotate_left
                                    · rintro w' ⟨s0, s1, s2, s3, s4, s5⟩
                                      go_simp
                                      with_reducible rfl
                                    rotate_left
                                    · simp only [Act.put, List.setIfInBounds_toArray, List.set_cons_zero, List.set_cons_succ, i64_w, i32_w]
                                      rfl
                                    refine pure_ (i := 3) (N := some 78) (v := ?_) (a' := ?_) #[true, true, true, true, false, true, false, true, false, false, false] rfl rfl (any_of HT_.out (by kernel_rfl)) (fun _ _ _ h => h) (Or.inl ⟨by rfl, ?_⟩) ?_ ?_
                                    rotate_left
                                    · intro w'
                                      go_simp
                                      with_reducible rfl
                                    rotate_left
                                    · simp only [Act.put, List.setIfInBounds_toArray, List.set_cons_zero, List.set_cons_succ, i64_w, i32_w]
                                      rfl
                                    refine take_ (i := 4) (N := some 79) (v := ?_) (a' := ?_) #[true, true, true, true, true, true, false, true, false, false, false] rfl rfl (take_ofW HT_.out HW_.out (by kernel_rfl)) (fun _ _ _ h => h) (Or.inl ⟨by rfl, ?_⟩) hHeld ?_ ?_
                                    rotate_left
                                    · rintro w' ⟨s0, s1, s2, s3, s4, s5⟩
                                      go_simp
                                      with_reducible rfl
                                    rotate_left
                                    · simp only [Act.put, List.setIfInBounds_toArray, List.set_cons_zero, List.set_cons_succ, i64_w, i32_w]
                                      rfl
                                    refine take_ (i := 6) (N := some 81) (v := ?_) (a' := ?_) #[true, true, true, true, true, true, true, true, false, false, false] rfl rfl (take_ofW HT_.out HW_.out (by kernel_rfl)) (fun _ _ _ h => h) (Or.inl ⟨by rfl, ?_⟩) hHeld ?_ ?_
                                    rotate_left
                                    · rintro w' ⟨s0, s1, s2, s3, s4, s5⟩
                                      go_simp
                                      with_reducible rfl
                                    rotate_left
                                    · simp only [Act.put, List.setIfInBounds_toArray, List.set_cons_zero, List.set_cons_succ, i64_w, i32_w]
                                      rfl
                                    refine pure_ (i := 8) (N := some 83) (v := ?_) (a' := ?_) #[true, true, true, true, true, true, true, true, true, false, false] rfl rfl (any_of HT_.out (by kernel_rfl)) (fun _ _ _ h => h) (Or.inl ⟨by rfl, ?_⟩) ?_ ?_
                                    rotate_left
                                    · intro w'
                                      go_simp
                                      with_reducible rfl
                                    rotate_left
                                    · simp only [Act.put, List.setIfInBounds_toArray, List.set_cons_zero, List.set_cons_succ, i64_w, i32_w]
                                      rfl
                                    refine take_ (i := 9) (N := some 84) (v := ?_) (a' := ?_) #[true, true, true, true, true, true, true, true, true, true, false] rfl rfl (take_ofW HT_.out HW_.out (by kernel_rfl)) (fun _ _ _ h => h) (Or.inl ⟨by rfl, ?_⟩) hHeld ?_ ?_
                                    rotate_left
                                    · rintro w' ⟨s0, s1, s2, s3, s4, s5⟩
                                      go_simp
                                      with_reducible rfl
                                    rotate_left
                                    · simp only [Act.put, List.setIfInBounds_toArray, List.set_cons_zero, List.set_cons_succ, i64_w, i32_w]
                                      rfl
                                    refine pure_ (i := 10) (N := some 85) (v := ?_) (a' := ?_) #[true, true, true, true, true, true, true, true, true, true, true] rfl rfl (any_of HT_.out (by kernel_rfl)) (fun _ _ _ h => h) (Or.inl ⟨by rfl, ?_⟩) ?_ ?_
                                    rotate_left
                                    · intro w'
                                      go_simp
                                      with_reducible rfl
                                    rotate_left
                                    · simp only [Act.put, List.setIfInBounds_toArray, List.set_cons_zero, List.set_cons_succ, i64_w, i32_w]
                                      rfl
                                    refine done_ (done_of HT_.out (by kernel_rfl)) ?_
                                    try go_wp2
                                    go_roundg k4
                                    case measure => have := HJ2.out; have := HK2.out; have := HJ24.out; have := HK4.out; omega
                                    case rel => exact ⟨(wrap64 (x8_4 + 1)), (by first | rfl | (simp; done) | (simp [*]; done) | (simp [wrap64]; done)), H', ⟨by have := HJ2.out; have := HK2.out; have := HJ24.out; have := HK4.out; omega⟩, ⟨by (with_reducible repeat (first | refine blk_drewN ?_ _ | refine blk_drew ?_ | refine blk_alloc ?_ _)); exact BK231.out⟩, ⟨by (with_reducible repeat (first | refine blk_drewN ?_ _ | refine blk_drew ?_ | refine blk_alloc ?_ _)); exact BK232.out⟩, ⟨by (with_reducible repeat (first | refine blk_drewN ?_ _ | refine blk_drew ?_ | refine blk_alloc ?_ _)); exact BK235.out⟩, ⟨by (with_reducible repeat (first | refine blk_drewN ?_ _ | refine blk_drew ?_ | refine blk_alloc ?_ _)); exact BK236.out⟩, ⟨by repeat (first | (with_reducible first | exact HB.out | apply below_alloc | apply pw_below_drewN | apply below_drew1 | refine below_set ?_ GE231.out | refine below_set ?_ GE232.out | refine below_set ?_ GE235.out | refine below_set ?_ GE236.out) | exact HB.out)⟩⟩
                                  · rw [if_neg c55] at H
                                    have c55b0 : ((rd ((rd_T49 l0_2 x5_2).f1) x8_4) == (rd ((rd_T49 l1_2 x5_2).f1) x8_4)) = false := beq_eq_false_iff_ne.mpr c55
                                    have c55b1 : ((rd ((rd_T49 l0_2 x5_2).f1) x8_4) != (rd ((rd_T49 l1_2 x5_2).f1) x8_4)) = true := bne_iff_ne.mpr c55
                                    obtain rfl := Option.some.inj H
                                    have hnb61 := NB235_231.out
                                    have hnc61 := NB231_235.out
                                    have hnb62 := NB235_232.out
                                    have hnc62 := NB232_235.out
                                    have hnb63 := NB235_236.out
                                    have hnc63 := NB236_235.out
                                    have hcz64_0 : wr.cell? ⟨gb235, 0, none⟩ = some (.int .u8 ((rd_T49 l0_2 x5_2).f0)) := (blk_cell BK235.out 0).trans rfl
                                    have hcz64_1 : wr.cell? ⟨gb235, 1, none⟩ = some (.slice A233_1 ((rd_T49 l0_2 x5_2).f1).length c233_1) := (blk_cell BK235.out 1).trans rfl
                                    have hfz64_0 := blk_frozen BK235.out 0
                                    have hfz64_1 := blk_frozen BK235.out 1
                                    try go_wp2
                                    have n0_ := Aside0.mk (blk_drew BK231.out)
                                    have n1_ := Aside0.mk (blk_drew BK232.out)
                                    have n2_ := Aside0.mk (blk_drew BK235.out)
                                    have n3_ := Aside0.mk (blk_drew BK236.out)
                                    have n4_ := Aside0.mk (below_drew1 HB.out)
                                    clear BK231
                                    clear BK232
                                    clear BK235
                                    clear BK236
                                    clear HB
                                    have BK231 := n0_
                                    have BK232 := n1_
                                    have BK235 := n2_
                                    have BK236 := n3_
                                    have HB := n4_
                                    clear n0_ n1_ n2_ n3_ n4_
                                    have p237 : 0 ≤ (x8_4 : Int) := of_decide_eq_true (by first | (with_reducible assumption) | assumption)
                                    have q237 : x8_4 < (((rd_T49 l0_2 x5_2).f1).length : Int) := of_decide_eq_true (by first | (with_reducible assumption) | assumption)
                                    obtain ⟨ad237, e237, hx237_0⟩ := Kd.at_int HR233_1.out x8_4 p237 q237
                                    have hw237_0 := hx237_0
                                    cases e237
                                    replace hx237_0 := (HB.out.cell (World.block_lt_of_cell? w _ hx237_0)).trans hx237_0
                                    replace p237 := eq_true p237
                                    replace q237 := eq_true q237
                                    have p238 : 0 ≤ (x8_4 : Int) := of_decide_eq_true (by first | (with_reducible assumption) | assumption)
                                    have q238 : x8_4 < (((rd_T49 l1_2 x5_2).f1).length : Int) := of_decide_eq_true (by first | (with_reducible assumption) | assumption)
                                    obtain ⟨ad238, e238, hx238_0⟩ := Kd.at_int HR234_1.out x8_4 p238 q238
                                    have hw238_0 := hx238_0
                                    cases e238
                                    replace hx238_0 := (HB.out.cell (World.block_lt_of_cell? w _ hx238_0)).trans hx238_0
                                    replace p238 := eq_true p238
                                    replace q238 := eq_true q238
                                    refine start_ (n := 11) (S := fun w' => w'.cell? ⟨gb235, 0, none⟩ = some (.int .u8 ((rd_T49 l0_2 x5_2).f0)) ∧ w'.cell? ⟨gb235, 1, none⟩ = some (.slice (some ad237) ((rd_T49 l0_2 x5_2).f1).length c233_1) ∧ w'.cell? ⟨gb236, 0, none⟩ = some (.int .u8 ((rd_T49 l1_2 x5_2).f0)) ∧ w'.cell? ⟨gb236, 1, none⟩ = some (.slice (some ad238) ((rd_T49 l1_2 x5_2).f1).length c234_1) ∧ w'.cell? (ad237.add (x8_4).toNat) = some (.int .i64 (rd ((rd_T49 l0_2 x5_2).f1) x8_4)) ∧ w'.cell? (ad238.add (x8_4).toNat) = some (.int .i64 (rd ((rd_T49 l1_2 x5_2).f1) x8_4))) (ds := []) #[false, false, false, false, false, false, false, false, false, false, false] (by kernel_rfl) rfl rfl ⟨(blk_cell BK235.out 0).trans rfl, (blk_cell BK235.out 1).trans rfl, (blk_cell BK236.out 0).trans rfl, (blk_cell BK236.out 1).trans rfl, ((HB.out.cell (World.block_lt_of_cell? w _ hw237_0)).trans hw237_0), ((HB.out.cell (World.block_lt_of_cell? w _ hw238_0)).trans hw238_0)⟩ (fun hHeld => ?_); refine with_tabW vivariumlaw11_alike.tab12 vivariumlaw11_alike.bits12 (fun HT_ HW_ => ?_)
                                    generalize wr.drew = w65 at BK231 BK232 BK235 BK236 HB hx237_0 hx238_0 hHeld ⊢
                                    refine pure_ (i := 0) (N := some 75) (v := ?_) (a' := ?_) #[true, false, false, false, false, false, false, false, false, false, false] rfl rfl (any_of HT_.out (by kernel_rfl)) (fun _ _ _ h => h) (Or.inl ⟨by rfl, ?_⟩) ?_ ?_
                                    rotate_left
                                    · intro w'
                                      go_simp
                                      with_reducible rfl
                                    rotate_left
                                    · simp only [Act.put, List.setIfInBounds_toArray, List.set_cons_zero, List.set_cons_succ, i64_w, i32_w]
                                      rfl
                                    refine pure_ (i := 2) (N := some 77) (v := ?_) (a' := ?_) #[true, false, true, false, false, false, false, false, false, false, false] rfl rfl (any_of HT_.out (by kernel_rfl)) (fun _ _ _ h => h) (Or.inl ⟨by rfl, ?_⟩) ?_ ?_
                                    rotate_left
                                    · intro w'
                                      go_simp
                                      with_reducible rfl
                                    rotate_left
                                    · simp only [Act.put, List.setIfInBounds_toArray, List.set_cons_zero, List.set_cons_succ, i64_w, i32_w]
                                      rfl
                                    refine pure_ (i := 5) (N := some 80) (v := ?_) (a' := ?_) #[true, false, true, false, false, true, false, false, false, false, false] rfl rfl (any_of HT_.out (by kernel_rfl)) (fun _ _ _ h => h) (Or.inl ⟨by rfl, ?_⟩) ?_ ?_
                                    rotate_left
                                    · intro w'
                                      go_simp
                                      with_reducible rfl
                                    rotate_left
                                    · simp only [Act.put, List.setIfInBounds_toArray, List.set_cons_zero, List.set_cons_succ, i64_w, i32_w]
                                      rfl
                                    refine pure_ (i := 7) (N := some 82) (v := ?_) (a' := ?_) #[true, false, true, false, false, true, false, true, false, false, false] rfl rfl (any_of HT_.out (by kernel_rfl)) (fun _ _ _ h => h) (Or.inl ⟨by rfl, ?_⟩) ?_ ?_
                                    rotate_left
                                    · intro w'
                                      go_simp
                                      with_reducible rfl
                                    rotate_left
                                    · simp only [Act.put, List.setIfInBounds_toArray, List.set_cons_zero, List.set_cons_succ, i64_w, i32_w]
                                      rfl
                                    refine take_ (i := 1) (N := some 76) (v := ?_) (a' := ?_) #[true, true, true, false, false, true, false, true, false, false, false] rfl rfl (take_ofW HT_.out HW_.out (by kernel_rfl)) (fun _ _ _ h => h) (Or.inl ⟨by rfl, ?_⟩) hHeld ?_ ?_
                                    rotate_left
                                    · rintro w' ⟨s0, s1, s2, s3, s4, s5⟩
                                      go_simp
                                      with_reducible rfl
                                    rotate_left
                                    · simp only [Act.put, List.setIfInBounds_toArray, List.set_cons_zero, List.set_cons_succ, i64_w, i32_w]
                                      rfl
                                    refine pure_ (i := 3) (N := some 78) (v := ?_) (a' := ?_) #[true, true, true, true, false, true, false, true, false, false, false] rfl rfl (any_of HT_.out (by kernel_rfl)) (fun _ _ _ h => h) (Or.inl ⟨by rfl, ?_⟩) ?_ ?_
                                    rotate_left
                                    · intro w'
                                      go_simp
                                      with_reducible rfl
                                    rotate_left
                                    · simp only [Act.put, List.setIfInBounds_toArray, List.set_cons_zero, List.set_cons_succ, i64_w, i32_w]
                                      rfl
                                    refine take_ (i := 4) (N := some 79) (v := ?_) (a' := ?_) #[true, true, true, true, true, true, false, true, false, false, false] rfl rfl (take_ofW HT_.out HW_.out (by kernel_rfl)) (fun _ _ _ h => h) (Or.inl ⟨by rfl, ?_⟩) hHeld ?_ ?_
                                    rotate_left
                                    · rintro w' ⟨s0, s1, s2, s3, s4, s5⟩
                                      go_simp
                                      with_reducible rfl
                                    rotate_left
                                    · simp only [Act.put, List.setIfInBounds_toArray, List.set_cons_zero, List.set_cons_succ, i64_w, i32_w]
                                      rfl
                                    refine take_ (i := 6) (N := some 81) (v := ?_) (a' := ?_) #[true, true, true, true, true, true, true, true, false, false, false] rfl rfl (take_ofW HT_.out HW_.out (by kernel_rfl)) (fun _ _ _ h => h) (Or.inl ⟨by rfl, ?_⟩) hHeld ?_ ?_
                                    rotate_left
                                    · rintro w' ⟨s0, s1, s2, s3, s4, s5⟩
                                      go_simp
                                      with_reducible rfl
                                    rotate_left
                                    · simp only [Act.put, List.setIfInBounds_toArray, List.set_cons_zero, List.set_cons_succ, i64_w, i32_w]
                                      rfl
                                    refine pure_ (i := 8) (N := some 83) (v := ?_) (a' := ?_) #[true, true, true, true, true, true, true, true, true, false, false] rfl rfl (any_of HT_.out (by kernel_rfl)) (fun _ _ _ h => h) (Or.inl ⟨by rfl, ?_⟩) ?_ ?_
                                    rotate_left
                                    · intro w'
                                      go_simp
                                      with_reducible rfl
                                    rotate_left
                                    · simp only [Act.put, List.setIfInBounds_toArray, List.set_cons_zero, List.set_cons_succ, i64_w, i32_w]
                                      rfl
                                    refine take_ (i := 9) (N := some 84) (v := ?_) (a' := ?_) #[true, true, true, true, true, true, true, true, true, true, false] rfl rfl (take_ofW HT_.out HW_.out (by kernel_rfl)) (fun _ _ _ h => h) (Or.inl ⟨by rfl, ?_⟩) hHeld ?_ ?_
                                    rotate_left
                                    · rintro w' ⟨s0, s1, s2, s3, s4, s5⟩
                                      go_simp
                                      with_reducible rfl
                                    rotate_left
                                    · simp only [Act.put, List.setIfInBounds_toArray, List.set_cons_zero, List.set_cons_succ, i64_w, i32_w]
                                      rfl
                                    refine pure_ (i := 10) (N := some 85) (v := ?_) (a' := ?_) #[true, true, true, true, true, true, true, true, true, true, true] rfl rfl (any_of HT_.out (by kernel_rfl)) (fun _ _ _ h => h) (Or.inl ⟨by rfl, ?_⟩) ?_ ?_
                                    rotate_left
                                    · intro w'
                                      go_simp
                                      with_reducible rfl
                                    rotate_left
                                    · simp only [Act.put, List.setIfInBounds_toArray, List.set_cons_zero, List.set_cons_succ, i64_w, i32_w]
                                      rfl
                                    refine done_ (done_of HT_.out (by kernel_rfl)) ?_
                                    try go_wp2
                                    go_ret
                                    exact ⟨by first | rfl | (simp [errW_none, errW_some] <;> rfl) | (simp [*, errW_none, errW_some] <;> rfl), by repeat (first | (with_reducible first | exact HB.out | apply below_alloc | apply pw_below_drewN | apply below_drew1 | refine below_set ?_ GE231.out | refine below_set ?_ GE232.out | refine below_set ?_ GE235.out | refine below_set ?_ GE236.out) | exact HB.out)⟩
                                · rw [if_neg c54] at H
                                  exact absurd H (by simp)
                              · rw [if_neg c53] at H
                                exact absurd H (by simp)
                            · rw [if_neg c52] at H
                              have c52b0 : decide (x8_4 < (((rd_T49 l0_2 x5_2).f1).length : Int)) = false := decide_eq_false c52
                              clear c52
                              have H' := Aside0.mk H
                              clear H
                              have hnb66 := NB235_231.out
                              have hnc66 := NB231_235.out
                              have hnb67 := NB235_232.out
                              have hnc67 := NB232_235.out
                              have hnb68 := NB235_236.out
                              have hnc68 := NB236_235.out
                              have hcz69_0 : wr.cell? ⟨gb235, 0, none⟩ = some (.int .u8 ((rd_T49 l0_2 x5_2).f0)) := (blk_cell BK235.out 0).trans rfl
                              have hcz69_1 : wr.cell? ⟨gb235, 1, none⟩ = some (.slice A233_1 ((rd_T49 l0_2 x5_2).f1).length c233_1) := (blk_cell BK235.out 1).trans rfl
                              have hfz69_0 := blk_frozen BK235.out 0
                              have hfz69_1 := blk_frozen BK235.out 1
                              go_wp2
                              go_roundg k4
                              case measure => have := HJ2.out; have := HK2.out; have := HJ24.out; have := HK4.out; omega
                              case rel => exact ⟨(wrap64 (x5_2 + 1)), (by first | rfl | (simp; done) | (simp [*]; done) | (simp [wrap64]; done)), H', ⟨by have := HJ2.out; have := HK2.out; have := HJ24.out; have := HK4.out; omega⟩, ⟨by (with_reducible repeat (first | refine blk_drewN ?_ _ | refine blk_drew ?_ | refine blk_alloc ?_ _)); exact BK231.out⟩, ⟨by (with_reducible repeat (first | refine blk_drewN ?_ _ | refine blk_drew ?_ | refine blk_alloc ?_ _)); exact BK232.out⟩, ⟨by repeat (first | (with_reducible first | exact HB.out | apply below_alloc | apply pw_below_drewN | apply below_drew1 | refine below_set ?_ GE231.out | refine below_set ?_ GE232.out | refine below_set ?_ GE235.out | refine below_set ?_ GE236.out) | exact HB.out)⟩⟩
                · rw [if_neg c24] at H
                  exact absurd H (by simp)
              · rw [if_neg c23] at H
                exact absurd H (by simp)
            · rw [if_neg c22] at H
              have c22b0 : decide (x5_2 < (l0_2.length : Int)) = false := decide_eq_false c22
              clear c22
              obtain rfl := Option.some.inj H
              have hnb70 := NB231_232.out
              have hnc70 := NB232_231.out
              have hcz71_0 : wr.cell? ⟨gb231, 0, none⟩ = some (.int .i64 a0_0) := (blk_cell BK231.out 0).trans rfl
              have hcz71_1 : wr.cell? ⟨gb231, 1, none⟩ = some (.int .i64 a0_1) := (blk_cell BK231.out 1).trans rfl
              have hcz71_2 : wr.cell? ⟨gb231, 2, none⟩ = some (.slice A0_2 l0_2.length c0_2) := (blk_cell BK231.out 2).trans rfl
              have hcz71_3 : wr.cell? ⟨gb231, 3, none⟩ = some (.int .i64 a0_3) := (blk_cell BK231.out 3).trans rfl
              have hfz71_0 := blk_frozen BK231.out 0
              have hfz71_1 := blk_frozen BK231.out 1
              have hfz71_2 := blk_frozen BK231.out 2
              have hfz71_3 := blk_frozen BK231.out 3
              go_wp2
              go_ret
              exact ⟨by first | rfl | (simp [errW_none, errW_some] <;> rfl) | (simp [*, errW_none, errW_some] <;> rfl), by repeat (first | (with_reducible first | exact HB.out | apply below_alloc | apply pw_below_drewN | apply below_drew1 | refine below_set ?_ GE231.out | refine below_set ?_ GE232.out) | exact HB.out)⟩
end Go.Proofs.YtbnonnogkgbpiaaDoor.PT
end
section
namespace Go.Proofs.YtbnonnogkgbpiaaDoor.TreePlain
open Go Go.RowKit Go.Proofs.YtbnonnogkgbpiaaDoorW.PrintWords Go.Proofs.YtbnonnogkgbpiaaDoorW.PrintLast Go.Proofs.YtbnonnogkgbpiaaDoorW.PrintMore Go.Proofs.YtbnonnogkgbpiaaDoor.PT
set_option linter.unusedVariables false
set_option linter.unusedSimpArgs false
section
variable {s n r s' n' r' : Int}
theorem l1_like (l l' : List S49) (x y : S49) (i : Nat) (hi : i ≤ 4611686018427387904) (res : Bool) (hl : x.f1.length = y.f1.length) (hs : x.f1.length ≤ 4611686018427387904) (hc : ∃ k, vivariumlaw11_alike.l0 k ((i + 1 : Nat) : Int) s n l r s' n' l' r' = some res) :
    ∀ (d j : Nat), j + d = x.f1.length → (∀ q (h : q < x.f1.length), q < j → x.f1[q] = y.f1[q]'(hl ▸ h)) → ∃ k, vivariumlaw11_alike.l1 k i j s n l r s' n' l' r' x.f0 x.f1 y.f0 y.f1 = some (if x.f1 = y.f1 then res else false) := by
  intro d
  induction d with
  | zero =>
    intro j hj hall
    obtain ⟨k, hk⟩ := hc
    have hw : wrap64 ((i : Int) + 1) = ((i + 1 : Nat) : Int) := by unfold wrap64; omega
    refine ⟨k + 1, ?_⟩
    rw [vivariumlaw11_alike.l1, if_neg (by omega), hw, if_pos (List.ext_getElem hl (fun q h1 h2 => hall q h1 (by omega))), hk]
  | succ d ih =>
    intro j hj hall
    have hlt : j < x.f1.length := by omega
    have hlt2 : j < y.f1.length := by omega
    have q1 : (j : Int) < x.f1.length := by omega
    have q2 : (j : Int) < y.f1.length := by omega
    have q3 : (0 : Int) ≤ j := by omega
    have e1 := rd_nat hlt
    have e2 := rd_nat hlt2
    have hw : wrap64 ((j : Int) + 1) = ((j + 1 : Nat) : Int) := by unfold wrap64; omega
    by_cases c : x.f1[j] = y.f1[j]
    · obtain ⟨k, hk⟩ := ih (j + 1) (by omega) (fun q h hq => by
        rcases Nat.lt_or_ge q j with h' | h'
        · exact hall q h h'
        · have : q = j := by omega
          subst this
          exact c)
      refine ⟨k + 1, ?_⟩
      rw [vivariumlaw11_alike.l1, if_pos q1, if_pos q3, if_pos q2, e1, e2, if_pos c, hw, hk]
    · refine ⟨0 + 1, ?_⟩
      have hne : ¬ x.f1 = y.f1 := fun e => c (by
        have h1 : x.f1[j]? = y.f1[j]? := by rw [e]
        rw [List.getElem?_eq_getElem hlt, List.getElem?_eq_getElem hlt2] at h1
        exact Option.some.inj h1)
      rw [vivariumlaw11_alike.l1, if_pos q1, if_pos q3, if_pos q2, e1, e2, if_neg c, if_neg hne]
theorem l1_no (l l' : List S49) (x y : S49) (i : Nat) (hl : x.f1.length = y.f1.length) (hs : x.f1.length ≤ 4611686018427387904) (hne : ¬ x.f1 = y.f1) :
    ∀ (d j : Nat), j + d = x.f1.length → (∀ q (h : q < x.f1.length), q < j → x.f1[q] = y.f1[q]'(hl ▸ h)) → ∃ k, vivariumlaw11_alike.l1 k i j s n l r s' n' l' r' x.f0 x.f1 y.f0 y.f1 = some false := by
  intro d
  induction d with
  | zero =>
    intro j hj hall
    exact absurd (List.ext_getElem hl (fun q h1 h2 => hall q h1 (by omega))) hne
  | succ d ih =>
    intro j hj hall
    have hlt : j < x.f1.length := by omega
    have hlt2 : j < y.f1.length := by omega
    have q1 : (j : Int) < x.f1.length := by omega
    have q2 : (j : Int) < y.f1.length := by omega
    have q3 : (0 : Int) ≤ j := by omega
    have e1 := rd_nat hlt
    have e2 := rd_nat hlt2
    have hw : wrap64 ((j : Int) + 1) = ((j + 1 : Nat) : Int) := by unfold wrap64; omega
    by_cases c : x.f1[j] = y.f1[j]
    · obtain ⟨k, hk⟩ := ih (j + 1) (by omega) (fun q h hq => by
        rcases Nat.lt_or_ge q j with h' | h'
        · exact hall q h h'
        · have : q = j := by omega
          subst this
          exact c)
      refine ⟨k + 1, ?_⟩
      rw [vivariumlaw11_alike.l1, if_pos q1, if_pos q3, if_pos q2, e1, e2, if_pos c, hw, hk]
    · refine ⟨0 + 1, ?_⟩
      rw [vivariumlaw11_alike.l1, if_pos q1, if_pos q3, if_pos q2, e1, e2, if_neg c]
theorem l0_like (l l' : List S49) (hl : l.length = l'.length) (hs : l.length ≤ 4611686018427387904) (hk : ∀ x ∈ l, x.f1.length ≤ 4611686018427387904) : ∀ (d i : Nat), i + d = l.length → (∀ j (h : j < l.length), j < i → l[j] = l'[j]'(hl ▸ h)) → ∃ k, vivariumlaw11_alike.l0 k i s n l r s' n' l' r' = some (decide (l = l')) := by
  intro d
  induction d with
  | zero =>
    intro i hi hall
    refine ⟨0 + 1, ?_⟩
    rw [vivariumlaw11_alike.l0, if_neg (by omega), decide_eq_true (List.ext_getElem hl (fun j h1 h2 => hall j h1 (by omega)))]
  | succ d ih =>
    intro i hi hall
    have hlt : i < l.length := by omega
    have hlt2 : i < l'.length := by omega
    have q1 : (i : Int) < l.length := by omega
    have q2 : (i : Int) < l'.length := by omega
    have q3 : (0 : Int) ≤ i := by omega
    have e1 := rd49_nat hlt
    have e2 := rd49_nat hlt2
    have far : l[i] ≠ l'[i] → l ≠ l' := fun c e => c (by
      have h1 : l[i]? = l'[i]? := by rw [e]
      rw [List.getElem?_eq_getElem hlt, List.getElem?_eq_getElem hlt2] at h1
      exact Option.some.inj h1)
    by_cases c : l[i].f0 = l'[i].f0
    · by_cases c2 : l[i].f1.length = l'[i].f1.length
      · by_cases c3 : l[i].f1 = l'[i].f1
        · have hc := ih (i + 1) (by omega) (fun j h hj => by
            rcases Nat.lt_or_ge j i with h' | h'
            · exact hall j h h'
            · have : j = i := by omega
              subst this
              generalize l[j] = x at c c3
              generalize l'[j] = y at c c3
              obtain ⟨x0, x1⟩ := x
              obtain ⟨y0, y1⟩ := y
              simp at c c3
              rw [c, c3])
          obtain ⟨k, hk1⟩ := l1_like l l' l[i] l'[i] i (by omega) _ c2 (hk _ (List.getElem_mem _)) hc l[i].f1.length 0 (by omega) (fun q h hq => by omega)
          refine ⟨k + 1 + 1, ?_⟩
          rw [vivariumlaw11_alike.l0, if_pos q1, if_pos q3, if_pos q2, e1, e2, if_pos c, vivariumlaw11_alike.j2, if_neg (by simp [c2])]
          rw [if_pos c3, show ((0 : Nat) : Int) = 0 from rfl] at hk1
          rw [hk1]
        · have hc := l1_no l l' l[i] l'[i] i c2 (hk _ (List.getElem_mem _)) c3 (s := s) (n := n) (r := r) (s' := s') (n' := n') (r' := r') l[i].f1.length 0 (by omega) (fun q h hq => by omega)
          obtain ⟨k, hk1⟩ := hc
          refine ⟨k + 1 + 1, ?_⟩
          rw [vivariumlaw11_alike.l0, if_pos q1, if_pos q3, if_pos q2, e1, e2, if_pos c, vivariumlaw11_alike.j2, if_neg (by simp [c2]), decide_eq_false (far (fun e => c3 (by rw [e])))]
          rw [show ((0 : Nat) : Int) = 0 from rfl] at hk1
          rw [hk1]
      · refine ⟨0 + 1 + 1, ?_⟩
        rw [vivariumlaw11_alike.l0, if_pos q1, if_pos q3, if_pos q2, e1, e2, if_pos c, vivariumlaw11_alike.j2, if_pos (by simp; omega), decide_eq_false (far (fun e => c2 (by rw [e])))]
    · refine ⟨0 + 1 + 1, ?_⟩
      rw [vivariumlaw11_alike.l0, if_pos q1, if_pos q3, if_pos q2, e1, e2, if_neg c, vivariumlaw11_alike.j2, if_pos rfl, decide_eq_false (far (fun e => c (by rw [e])))]
theorem like_is (l l' : List S49) (hs : l.length ≤ 4611686018427387904) (hk : ∀ x ∈ l, x.f1.length ≤ 4611686018427387904) : ∃ k, vivariumlaw11_alike.f k s n l r s' n' l' r' = some (alikeP s n l r s' n' l' r') := by
  unfold alikeP
  have j0 : ∀ k, vivariumlaw11_alike.j0 (k + 1) true s n l r s' n' l' r' = some false := fun k => by rw [vivariumlaw11_alike.j0, if_pos rfl]
  by_cases c1 : s = s'
  · by_cases c2 : n = n'
    · by_cases c3 : r = r'
      · by_cases hl : l.length = l'.length
        · obtain ⟨k, hk⟩ := l0_like (s := s) (n := n) (r := r) (s' := s') (n' := n') (r' := r') l l' hl hs hk l.length 0 (by omega) (fun j h hj => by omega)
          refine ⟨k + 1, ?_⟩
          unfold vivariumlaw11_alike.f
          rw [if_pos c1, if_pos c2, if_pos c3, vivariumlaw11_alike.j0, if_neg (by simp [hl])]
          rw [show ((0 : Nat) : Int) = 0 from rfl] at hk
          rw [hk]
          congr 1
          simp [c1, c2, c3]
        · refine ⟨0 + 1, ?_⟩
          unfold vivariumlaw11_alike.f
          rw [if_pos c1, if_pos c2, if_pos c3, show ((l.length : Int) != (l'.length : Int)) = true by simp; omega, j0, decide_eq_false (fun e => hl (by rw [e.2.2.2]))]
      · refine ⟨0 + 1, ?_⟩
        unfold vivariumlaw11_alike.f
        rw [if_pos c1, if_pos c2, if_neg c3, j0, decide_eq_false (fun e => c3 e.2.2.1)]
    · refine ⟨0 + 1, ?_⟩
      unfold vivariumlaw11_alike.f
      rw [if_pos c1, if_neg c2, j0, decide_eq_false (fun e => c2 e.2.1)]
  · refine ⟨0 + 1, ?_⟩
    unfold vivariumlaw11_alike.f
    rw [if_neg c1, j0, decide_eq_false (fun e => c1 e.1)]
end
theorem like_calls (s n : Int) (A : Option Addr) (c : Nat) (l : List S49) (r s' n' : Int) (A' : Option Addr) (c' : Nat) (l' : List S49) (r' : Int) (w : World) (h1 : Kd.C k49 w A l.length l) (h2 : l.length ≤ c) (h3 : Kd.C k49 w A' l'.length l') (h4 : l'.length ≤ c') (hs : l.length ≤ 4611686018427387904) (hk : ∀ x ∈ l, x.f1.length ≤ 4611686018427387904) :
    Calls Tryd.prog 19 #[.agg #[.int .i64 s, .int .i64 n, .slice A l.length c, .int .i64 r], .agg #[.int .i64 s', .int .i64 n', .slice A' l'.length c', .int .i64 r']] w fun e w' => e = .returned (.bool (alikeP s n l r s' n' l' r')) ∧ Below w.heap.size w w' := by
  obtain ⟨k, h⟩ := like_is (s := s) (n := n) (r := r) (s' := s') (n' := n') (r' := r') l l' hs hk
  exact vivariumlaw11_alike.calls k s n A c l r s' n' A' c' l' r' _ w h1 h2 h3 h4 h
end Go.Proofs.YtbnonnogkgbpiaaDoor.TreePlain
end
section
namespace Go.Proofs.YtbnonnogkgbpiaaDoor.MapI
open Go Go.RowKit Go.Maps Go.Proofs.YtbnonnogkgbpiaaDoorW.PrintWords
set_option linter.unusedVariables false
def MapI (W : World) (k : TypeId) (b s : Nat) (f : Lit → Option Int) : Prop :=
  ∃ D : DataW Unit, W.ownsMap Tryd.prog k (plainElem Tryd.prog 3) b s D ∧ Maps.size D = s ∧ (∀ kl, Maps.has D kl = (f kl).isSome) ∧ ∀ kl c, f kl = some c → D.atKey kl (.lit (.int .i64 0)) = .lit (.int .i64 c)
def upd (f : Lit → Option Int) (k : Lit) (v : Int) (x : Lit) : Option Int := if x.sameKey k = true then some v else f x
section
variable {W W' : World} {k t : TypeId} {b s : Nat} {f : Lit → Option Int}
theorem MapI.made (W : World) (k : TypeId) : MapI (W.alloc (.map #[] 0)) k W.heap.size 0 (fun _ => none) :=
  ⟨.map [], World.ownsMap_made W _ _ _, rfl, fun _ => rfl, fun _ _ h => by cases h⟩
theorem MapI.obj {W : World} {k : TypeId} {b s : Nat} {f : Lit → Option Int} (h : MapI W k b s f) : ∃ es c, W.heap[b]? = some (.map es c) := by
  obtain ⟨D, ⟨es, c, hb, _⟩, _⟩ := h
  exact ⟨es, c, hb⟩
theorem MapI.lt (h : MapI W k b s f) : b < W.heap.size := by
  obtain ⟨D, h, _⟩ := h
  exact h.lt
theorem MapI.kept {row : Option Nat} (h : MapI W k b s f) (hg : W.grownBy W' row) (hne : some b ≠ row) : MapI W' k b s f := by
  obtain ⟨D, h, r⟩ := h
  exact ⟨D, h.kept hg hne, r⟩
theorem MapI.drew (h : MapI W k b s f) : MapI W.drew k b s f := by
  obtain ⟨D, h, r⟩ := h
  exact ⟨D, h.drew, r⟩
theorem MapI.setCell (h : MapI W k b s f) {a : Addr} (ha : b ≠ a.block) (u : Value) : MapI (W.setCell a u) k b s f := by
  obtain ⟨D, h, r⟩ := h
  exact ⟨D, h.setCell ha u, r⟩
theorem MapI.move (h : MapI W k b s f) (he : W'.heap[b]? = W.heap[b]?) : MapI W' k b s f := by
  obtain ⟨D, ⟨es, clock, hb, r⟩, q⟩ := h
  exact ⟨D, ⟨es, clock, he.trans hb, r⟩, q⟩
theorem MapI.on (h : MapI W k b s f) (hb : Below W.heap.size W W') : MapI W' k b s f := h.move (hb.block b h.lt)
theorem MapI.look (h : MapI W k b s f) (K : Keyed Tryd.prog k) (ht : Tryd.prog.underlying t = some (.map k 3)) {key : Value} {kl : Lit} (hkey : keyOf Tryd.prog k key = some kl) :
    (Instr.lookup t (.map (some b)) key true).run Tryd.prog W = .ok (.tuple #[.int .i64 ((f kl).getD 0), .bool (f kl).isSome]) W := by
  obtain ⟨D, h, hs, hh, ha⟩ := h
  obtain ⟨v, ps, hr, hv⟩ := h.look_ok K ht (Tryd.zeroValue3 W) (plainElem_int Tryd.underlying3 (by decide)) hkey
  obtain ⟨c, rfl, hc, _⟩ := plainElem_int_inv Tryd.underlying3 hv
  rw [hr, hh kl]
  have hc' : D.atKey kl (.lit (.int .i64 0)) = .lit (.int .i64 c) := congrArg Prod.fst hc
  cases hf : f kl with
  | none =>
    have h0 := hh kl
    rw [hf] at h0
    rw [atKey_of_not_has h0] at hc'
    cases hc'
    rfl
  | some q =>
    rw [ha kl q hf] at hc'
    cases hc'
    rfl
theorem MapI.len (h : MapI W k b s f) (ht : Tryd.prog.underlying t = some (.map k 3)) (ty : TypeId) : (Builtin.len_ #[t] ty #[.map (some b)]).run Tryd.prog W = .ok (.int .i64 (s : Int)) W := by
  obtain ⟨D, h, hs, _⟩ := h
  have := h.len ht ty
  rwa [hs] at this
theorem MapI.put (h : MapI W k b s f) (K : Keyed Tryd.prog k) (ht : Tryd.prog.underlying t = some (.map k 3)) (hs : s < maxLen) {key : Value} {kl : Lit} (hkey : keyOf Tryd.prog k key = some kl) (hkl : WideAt.IsKeyLit kl) (hn : f kl = none) (v : Int) (hv : (Lit.int .i64 v).wf = true) :
    ∃ W', (Instr.mapUpdate t (.map (some b)) key (.int .i64 v)).run Tryd.prog W = .ok () W' ∧ MapI W' k b (s + 1) (upd f kl v) ∧ W.grownBy W' (some b) := by
  obtain ⟨D, h, hsz, hh, ha⟩ := h
  obtain ⟨W', hr, ho, ht'⟩ := h.store K ht hs hkey (plainElem_int Tryd.underlying3 hv)
  have h0 := hh kl
  rw [hn] at h0
  refine ⟨W', hr, ⟨_, ho, ?_, ?_, ?_⟩, ht'.grown⟩
  · rw [size_put (h.tidy K), h0, hsz]
    rfl
  · intro x
    unfold upd
    by_cases e : x = kl
    · subst e
      rw [has_put_same h.isMap hkl, if_pos (WideAt.sameKey_self hkl)]
      rfl
    · rw [has_put_other e, hh x, sameKey_ne e, if_neg (by decide)]
  · intro x c hx
    unfold upd at hx
    by_cases e : x = kl
    · subst e
      rw [if_pos (WideAt.sameKey_self hkl)] at hx
      cases hx
      exact atKey_put_same h.isMap hkl _ _
    · rw [sameKey_ne e, if_neg (by decide)] at hx
      rw [atKey_put_other e]
      exact ha x c hx
end
end Go.Proofs.YtbnonnogkgbpiaaDoor.MapI
end
section
namespace Go.Proofs.YtbnonnogkgbpiaaDoor.TreeKeys
open Go Go.RowKit Go.Maps Go.Proofs.YtbnonnogkgbpiaaDoor.MapI
set_option linter.unusedVariables false
theorem laidOut : laidOutB Tryd.prog = true := by kernel_rfl
theorem key8 : Keyed Tryd.prog 5 := int_keyed Tryd.underlying5
theorem keyI : Keyed Tryd.prog 3 := int_keyed Tryd.underlying3
theorem keyP : Keyed Tryd.prog 139 := Keyed.of_law (deep_law_gate laidOut (by decide +kernel) (by decide +kernel) (by kernel_rfl) (by kernel_rfl))
theorem c1 : Tryd.prog.cellsOf 139 = 2 := by kernel_rfl
theorem c2 : Tryd.prog.cellsOf 3 = 1 := by kernel_rfl
theorem lits_int (d : Nat) (x : Int) (hx : (Lit.int .i64 x).wf = true) : Tryd.prog.keyLits (d + 1) 3 [.int .i64 x] = some [.int .i64 x] := by
  unfold Program.keyLits
  rw [Tryd.underlying3]
  simp [hx]
theorem lits_pair (d : Nat) (a b : Int) (ha : (Lit.int .i64 a).wf = true) (hb : (Lit.int .i64 b).wf = true) : Tryd.prog.keyLits (d + 1 + 1) 139 [.int .i64 a, .int .i64 b] = some [.int .i64 a, .int .i64 b] := by
  unfold Program.keyLits
  rw [Tryd.underlying139]
  simp [c1, c2, lits_int d a ha, lits_int d b hb]
theorem hN : Tryd.prog.types.size = 173 := by kernel_rfl
def pk (a b : Int) : Lit := .string (keyBytes [.int .i64 a, .int .i64 b])
theorem pair_key (a b : Int) (ha : (Lit.int .i64 a).wf = true) (hb : (Lit.int .i64 b).wf = true) : keyOf Tryd.prog 139 (.agg #[.int .i64 a, .int .i64 b]) = some (pk a b) := by
  have hk : Tryd.prog.keyType 139 = true := by kernel_rfl
  have hf : Value.formed Tryd.prog 139 (.agg #[.int .i64 a, .int .i64 b]) = true := by kernel_rfl
  unfold keyOf
  rw [Tryd.underlying139]
  simp only [hk, Bool.true_and]
  rw [if_pos hf, hN]
  have h := lits_pair 172 a b ha hb
  show Option.map _ (Tryd.prog.keyLits (172 + 1 + 1) 139 [.int .i64 a, .int .i64 b]) = _
  rw [h]
  rfl
theorem pk_lit (a b : Int) : WideAt.IsKeyLit (pk a b) := trivial
end Go.Proofs.YtbnonnogkgbpiaaDoor.TreeKeys
end
section
namespace Go.Proofs.YtbnonnogkgbpiaaDoor.Forest
open Go Go.RowKit Go.Maps Go.Proofs.YtbnonnogkgbpiaaDoor.MapI Go.Proofs.YtbnonnogkgbpiaaDoor.TreeKeys Go.Proofs.YtbnonnogkgbpiaaDoorW.PrintWords Go.Proofs.YtbnonnogkgbpiaaDoorW.PrintLast Go.Proofs.YtbnonnogkgbpiaaDoorW.PrintMore
set_option linter.unusedVariables false
set_option linter.unusedSimpArgs false
structure Fo where
  st : Int
  nodes : List (Int × List Int)
  lv : Lit → Option Int
  nl : Nat
  rs : Lit → Option Int
  nr : Nat
  en : Lit → Option Int
  ne : Nat
def ncells (l : List (Int × List Int)) (K : List Value) : Nat → List Value
  | 0 => []
  | i + 1 => ncells l K i ++ [.int .u8 (l.getD i (0, [])).1, K.getD i (.slice none 0 0)]
theorem ncells_congr (l l' : List (Int × List Int)) (K K' : List Value) : ∀ i, (∀ j, j < i → l.getD j (0, []) = l'.getD j (0, []) ∧ K.getD j (.slice none 0 0) = K'.getD j (.slice none 0 0)) → ncells l K i = ncells l' K' i
  | 0, _ => rfl
  | i + 1, h => by
    show ncells l K i ++ _ = ncells l' K' i ++ _
    rw [ncells_congr l l' K K' i (fun j hj => h j (by omega)), (h i (by omega)).1, (h i (by omega)).2]
theorem getD_old {α : Type} (l : List α) (x d : α) (j : Nat) (h : j < l.length) : (l ++ [x]).getD j d = l.getD j d := by
  rw [List.getD_eq_getElem?_getD, List.getD_eq_getElem?_getD, List.getElem?_append_left h]
theorem getD_new {α : Type} (l : List α) (x d : α) : (l ++ [x]).getD l.length d = x := by
  rw [List.getD_eq_getElem?_getD, List.getElem?_append_right (Nat.le_refl _), Nat.sub_self]
  rfl
theorem ncells_snoc (l : List (Int × List Int)) (K : List Value) (hK : K.length = l.length) (s : Int) (ks : List Int) (v : Value) : ncells (l ++ [(s, ks)]) (K ++ [v]) (l ++ [(s, ks)]).length = ncells l K l.length ++ [.int .u8 s, v] := by
  rw [List.length_append, List.length_singleton]
  show ncells (l ++ [(s, ks)]) (K ++ [v]) l.length ++ _ = _
  rw [getD_new, ← hK, getD_new, hK]
  rw [ncells_congr (l ++ [(s, ks)]) l (K ++ [v]) K l.length (fun j hj => ⟨getD_old l _ _ j hj, getD_old K _ _ j (by omega)⟩)]
structure FoAt (base : Nat) (W : World) (p : Nat) (F : Fo) (nv : Value) (bl br be : Nat) (K : List Value) : Prop where
  box : W.heap[p]? = some (.cells #[.int .i64 F.st, nv, .map (some bl), .map (some br), .map (some be)] 115 (0, 0))
  gp : base ≤ p
  gl : base ≤ bl
  gr : base ≤ br
  ge : base ≤ be
  lr : bl ≠ br
  le : bl ≠ be
  re : br ≠ be
  row : W.ownsRow base 49 2 nv F.nodes.length (ncells F.nodes K F.nodes.length)
  len : K.length = F.nodes.length
  kid : ∀ (j : Nat) v, K[j]? = some v → W.ownsRow base 3 1 v (F.nodes.getD j (0, [])).2.length (nums .i64 (F.nodes.getD j (0, [])).2)
  kap : ∀ (i j : Nat) u v, i ≠ j → K[i]? = some u → K[j]? = some v → u.ownBlock = none ∨ u.ownBlock ≠ v.ownBlock
  lvm : MapI W 5 bl F.nl F.lv
  rsm : MapI W 139 br F.nr F.rs
  enm : MapI W 3 be F.ne F.en
section
variable {base p bl br be : Nat} {W W' : World} {F : Fo} {nv : Value} {K : List Value}
theorem FoAt.move (h : FoAt base W p F nv bl br be K) (h1 : W'.heap[p]? = W.heap[p]?) (h2 : ∀ k, nv.ownBlock = some k → W'.heap[k]? = W.heap[k]?) (h3 : ∀ v ∈ K, ∀ k, v.ownBlock = some k → W'.heap[k]? = W.heap[k]?) (h4 : W'.heap[bl]? = W.heap[bl]?) (h5 : W'.heap[br]? = W.heap[br]?) (h6 : W'.heap[be]? = W.heap[be]?) : FoAt base W' p F nv bl br be K :=
  ⟨h1.trans h.box, h.gp, h.gl, h.gr, h.ge, h.lr, h.le, h.re, own_move h.row h2, h.len, fun j v hj => own_move (h.kid j v hj) (h3 v (List.mem_of_getElem? hj)), h.kap, h.lvm.move h4, h.rsm.move h5, h.enm.move h6⟩
theorem FoAt.on (h : FoAt base W p F nv bl br be K) (hb : Below W.heap.size W W') : FoAt base W' p F nv bl br be K :=
  h.move (hb.block p (blk_lt h.box)) (fun k hk => hb.block k (own_lt h.row k hk)) (fun v hv k hk => by
    obtain ⟨j, hj, rfl⟩ := List.mem_iff_getElem.1 hv
    exact hb.block k (own_lt (h.kid j _ (List.getElem?_eq_getElem hj)) k hk)) (hb.block bl h.lvm.lt) (hb.block br h.rsm.lt) (hb.block be h.enm.lt)
theorem FoAt.lower {base' : Nat} (h : FoAt base W p F nv bl br be K) (hb : base' ≤ base) : FoAt base' W p F nv bl br be K :=
  ⟨h.box, Nat.le_trans hb h.gp, Nat.le_trans hb h.gl, Nat.le_trans hb h.gr, Nat.le_trans hb h.ge, h.lr, h.le, h.re, own_weaken h.row hb, h.len, fun j v hj => own_weaken (h.kid j v hj) hb, h.kap, h.lvm, h.rsm, h.enm⟩
end
def Fr (w w' : World) : Prop := ∀ (k : Nat) (cs : Array Value) (t : TypeId) (f : Nat × Nat), w.heap[k]? = some (Obj.cells cs t f) → t ≠ 115 → t ≠ 49 → w'.heap[k]? = w.heap[k]?
theorem Fr.refl (w : World) : Fr w w := by
  intro _ _ _ _ _ _ _
  rfl
theorem Fr.trans {w w1 w2 : World} (h : Fr w w1) (g : Fr w1 w2) : Fr w w2 := by
  intro k cs t f hk a b
  exact (g k cs t f ((h k cs t f hk a b).trans hk) a b).trans (h k cs t f hk a b)
theorem Fr.below {w w' : World} (h : Below w.heap.size w w') : Fr w w' := by
  intro k _ _ _ hk _ _
  exact h.block k (blk_lt hk)
theorem Fr.map {w w' : World} {k : TypeId} {b s : Nat} {f : Lit → Option Int} (hm : MapI w k b s f) (hg : w.grownBy w' (some b)) : Fr w w' := by
  intro q cs t f' hk _ _
  exact hg.block q (blk_lt hk) (fun e => by
    cases e
    obtain ⟨es, c, hb⟩ := hm.obj
    rw [hb] at hk
    cases hk)
theorem Fr.row {w w' : World} {base n size : Nat} {v : Value} {xs : List Value} (h : w.ownsRow base 49 size v n xs) (hg : w.grownBy w' v.ownBlock) : Fr w w' := by
  intro q cs t f hk _ hne
  exact hg.block q (blk_lt hk) (fun e => by
    obtain ⟨cs', hc⟩ := own_typed h q e.symm
    rw [hc] at hk
    injection hk with hk
    injection hk with _ hk
    exact hne hk.symm)
theorem Fr.set {w : World} {p j : Nat} {v : Value} {cs : Array Value} {f : Nat × Nat} (h : w.heap[p]? = some (.cells cs 115 f)) : Fr w (w.setCell ⟨p, j, none⟩ v) := by
  intro q cs' t f' hk hne _
  exact Below.heap_setCell _ ⟨p, j, none⟩ _ _ (fun e => by
    rw [show q = p from e, h] at hk
    injection hk with hk
    injection hk with _ hk
    exact hne hk.symm)
def KNew (w : World) (K K' : List Value) : Prop := ∀ v ∈ K', v ∈ K ∨ ∀ k, v.ownBlock = some k → w.heap.size ≤ k
theorem KNew.refl (w : World) (K : List Value) : KNew w K K := by
  intro v hv
  exact .inl hv
theorem KNew.trans {w w1 : World} {K K1 K2 : List Value} (h : KNew w K K1) (g : KNew w1 K1 K2) (hs : w.heap.size ≤ w1.heap.size) : KNew w K K2 := by
  intro v hv
  rcases g v hv with h1 | h1
  · exact h v h1
  · exact .inr (fun k hk => Nat.le_trans hs (h1 k hk))
theorem KNew.snoc {w : World} {K : List Value} {v : Value} (h : ∀ k, v.ownBlock = some k → w.heap.size ≤ k) : KNew w K (K ++ [v]) := by
  intro u hu
  rcases List.mem_append.1 hu with hu | hu
  · exact .inl hu
  · rw [List.mem_singleton.1 hu]
    exact .inr h
end Go.Proofs.YtbnonnogkgbpiaaDoor.Forest
end
section
namespace Go.Proofs.YtbnonnogkgbpiaaDoor.Forest
open Go Go.RowKit Go.Maps Go.Proofs.YtbnonnogkgbpiaaDoor.MapI Go.Proofs.YtbnonnogkgbpiaaDoor.TreeKeys Go.Proofs.YtbnonnogkgbpiaaDoorW.PrintWords Go.Proofs.YtbnonnogkgbpiaaDoorW.PrintLast Go.Proofs.YtbnonnogkgbpiaaDoorW.PrintMore
set_option linter.unusedVariables false
set_option linter.unusedSimpArgs false
def Fo.newLeaf (F : Fo) (s : Int) : Fo := { F with nodes := F.nodes ++ [(s, [])], lv := upd F.lv (.int .u8 s) (F.nodes.length : Int), nl := F.nl + 1 }
def Fo.leaf (F : Fo) (s : Int) : Fo × Int := match F.lv (.int .u8 s) with
  | some id => (F, id)
  | none => (F.newLeaf s, (F.nodes.length : Int))
theorem wp_put {P : Program} {W : World} {ops : Array Oper} {rest : List Oper} {o : Oper} {a : Act} {Q : Exit → Act → World → Prop} (hg : o.guard = none) (m x v : Operand) (t : TypeId) (hop : o.op = Op.mapUpdate t m x v) {b : Nat} {key val : Value}
    (hm : a.eval m = .map (some b)) (hx : a.eval x = key) (hv : a.eval v = val) {R : World → Prop} (h : ∃ W', (Instr.mapUpdate t (.map (some b)) key val).run P W = .ok () W' ∧ R W') (hK : ∀ W', R W' → wpList P ops Q rest (a.put o.dst undef) W') : wpList P ops Q (o :: rest) a W := by
  refine wpList_plain hg fun K' hK' => ?_
  obtain ⟨w', hrun, r1⟩ := h
  unfold Oper.wp
  simp [execOp, hop, hm, hx, hv, hrun, Result.andThen]
  exact hK' _ _ (hK w' r1)
set_option maxHeartbeats 4000000 in
set_option maxRecDepth 100000 in
theorem leaf_old (base p : Nat) (F : Fo) (nv : Value) (bl br be : Nat) (K : List Value) (s id : Int) (w : World) (h : FoAt base w p F nv bl br be K) (hs : (Lit.int .u8 s).wf = true) (hf : F.lv (.int .u8 s) = some id) :
    Calls Tryd.prog 63 #[.pointer (some ⟨p, 0, none⟩), .int .u8 s] w fun e w' => e = .returned (.int .i64 id) ∧ w' = w := by
  have c2_ := (blk_cell h.box 2).trans (show _ = some (Value.map (some bl)) from rfl)
  have hlook := h.lvm.look (t := 112) key8 Tryd.underlying112 (keyOf_int_mk Tryd.underlying5 hs)
  rw [hf] at hlook
  go_enter Tryd.func63, Tryd.ntmps63
  go_wp2
  go_ret
  exact ⟨rfl, rfl⟩
theorem ne_map {W : World} {b k : Nat} {es : Array MapEntry} {c : Nat} {cs : Array Value} {t : TypeId} (h : W.heap[b]? = some (.map es c)) (h' : W.heap[k]? = some (.cells cs t (0, 0))) : k ≠ b := by
  rintro rfl
  rw [h] at h'
  cases h'
theorem ne_own {W : World} {b base n size : Nat} {e : TypeId} {v : Value} {xs : List Value} {es : Array MapEntry} {c : Nat} (h : W.heap[b]? = some (.map es c)) (h' : W.ownsRow base e size v n xs) : v.ownBlock ≠ some b := by
  intro hk
  obtain ⟨cs, hc⟩ := own_typed h' b hk
  rw [h] at hc
  cases hc
theorem FoAt.putl {base p bl br be : Nat} {W W' : World} {F : Fo} {nv : Value} {K : List Value} (h : FoAt base W p F nv bl br be K) {f : Lit → Option Int} {n : Nat} (hm : MapI W' 5 bl n f) (hg : W.grownBy W' (some bl)) : FoAt base W' p { F with lv := f, nl := n } nv bl br be K := by
  obtain ⟨es, c, hb⟩ := h.lvm.obj
  have g : ∀ k, k < W.heap.size → k ≠ bl → W'.heap[k]? = W.heap[k]? := fun k hk hne => hg.block k hk (by simpa using hne)
  exact ⟨(g p (blk_lt h.box) (ne_map hb h.box)).trans h.box, h.gp, h.gl, h.gr, h.ge, h.lr, h.le, h.re, own_move h.row (fun k hk => g k (own_lt h.row k hk) (fun e => ne_own hb h.row (e ▸ hk))), h.len,
    fun j v hj => own_move (h.kid j v hj) (fun k hk => g k (own_lt (h.kid j v hj) k hk) (fun e => ne_own hb (h.kid j v hj) (e ▸ hk))), h.kap, hm, h.rsm.move (g br h.rsm.lt (Ne.symm h.lr)), h.enm.move (g be h.enm.lt (Ne.symm h.le))⟩
theorem FoAt.snoc {base p bl br be : Nat} {W W' : World} {F : Fo} {nv : Value} {K : List Value} (h : FoAt base W p F nv bl br be K) (s : Int) (ks : List Int) (v v1 : Value) (hg : W.grownBy W' nv.ownBlock)
    (ho : W'.ownsRow base 49 2 v1 (F.nodes.length + 1) (ncells F.nodes K F.nodes.length ++ [.int .u8 s, v])) (hv : W'.ownsRow base 3 1 v ks.length (nums .i64 ks)) (hk : ∀ u ∈ K, u.ownBlock = none ∨ u.ownBlock ≠ v.ownBlock) :
    FoAt base (W'.setCell ⟨p, 1, none⟩ v1) p { F with nodes := F.nodes ++ [(s, ks)] } v1 bl br be (K ++ [v]) := by
  have hpn : some p ≠ nv.ownBlock := fun e => by
    obtain ⟨cs, hc⟩ := own_typed h.row p e.symm
    rw [h.box] at hc
    injection hc with hc
    injection hc with _ hc
    exact absurd hc (by decide)
  have hb := blk_grown h.box hg hpn
  have far : ∀ k, k ≠ p → (W'.setCell ⟨p, 1, none⟩ v1).heap[k]? = W'.heap[k]? := fun k hk => Below.heap_setCell _ ⟨p, 1, none⟩ _ _ hk
  have hmap : ∀ b es c, W.heap[b]? = some (.map es c) → W'.heap[b]? = W.heap[b]? ∧ b ≠ p := fun b es c hm => ⟨hg.block b (blk_lt hm) (fun e => ne_own hm h.row e.symm), fun e => ne_map hm h.box e.symm⟩
  have hm : ∀ {k : TypeId} {b s : Nat} {f : Lit → Option Int}, MapI W k b s f → MapI (W'.setCell ⟨p, 1, none⟩ v1) k b s f := fun {k b s f} h2 => by
    obtain ⟨es, c, hb2⟩ := h2.obj
    exact h2.move ((far b (hmap b es c hb2).2).trans (hmap b es c hb2).1)
  have oth : ∀ {u : Value} {n : Nat} {xs : List Value}, W'.ownsRow base 3 1 u n xs → (W'.setCell ⟨p, 1, none⟩ v1).ownsRow base 3 1 u n xs := fun {u n xs} h2 => own_move h2 (fun k hk => far k (fun e => by
    obtain ⟨cs, hc⟩ := own_typed h2 k hk
    rw [e, hb] at hc
    injection hc with hc
    injection hc with _ hc
    exact absurd hc (by decide)))
  have kids : ∀ (j : Nat) u, K[j]? = some u → W'.ownsRow base 3 1 u (F.nodes.getD j (0, [])).2.length (nums .i64 (F.nodes.getD j (0, [])).2) := fun j u hj => own_move (h.kid j u hj) (fun k hk => hg.block k (own_lt (h.kid j u hj) k hk) (fun e => by
    obtain ⟨cs, hc⟩ := own_typed (h.kid j u hj) k hk
    obtain ⟨cs', hc'⟩ := own_typed h.row k e.symm
    rw [hc] at hc'
    injection hc' with hc'
    injection hc' with _ hc'
    exact absurd hc' (by decide)))
  refine ⟨blk_put hb 1 v1 rfl, h.gp, h.gl, h.gr, h.ge, h.lr, h.le, h.re, ?_, by simp [h.len], ?_, ?_, hm h.lvm, hm h.rsm, hm h.enm⟩
  · show (W'.setCell ⟨p, 1, none⟩ v1).ownsRow base 49 2 v1 (F.nodes ++ [(s, ks)]).length (ncells (F.nodes ++ [(s, ks)]) (K ++ [v]) (F.nodes ++ [(s, ks)]).length)
    rw [ncells_snoc F.nodes K h.len s ks v]
    have e : (F.nodes ++ [(s, ks)]).length = F.nodes.length + 1 := by simp
    rw [e]
    exact own_move ho (fun k hk => far k (fun e => by
      obtain ⟨cs, hc⟩ := own_typed ho k hk
      rw [e, hb] at hc
      injection hc with hc
      injection hc with _ hc
      exact absurd hc (by decide)))
  · intro j u hj
    show (W'.setCell ⟨p, 1, none⟩ v1).ownsRow base 3 1 u ((F.nodes ++ [(s, ks)]).getD j (0, [])).2.length (nums .i64 ((F.nodes ++ [(s, ks)]).getD j (0, [])).2)
    by_cases hl : j < K.length
    · rw [List.getElem?_append_left hl] at hj
      rw [getD_old F.nodes _ _ j (by rw [← h.len]; exact hl)]
      exact oth (kids j u hj)
    · rw [List.getElem?_append_right (by omega)] at hj
      have e : j = K.length := by
        have := (List.getElem?_eq_some_iff.1 hj).1
        simp at this
        omega
      subst e
      rw [Nat.sub_self] at hj
      cases hj
      rw [h.len, getD_new]
      exact oth hv
  · intro i j u x hij hi hj
    by_cases hl : i < K.length
    · rw [List.getElem?_append_left hl] at hi
      by_cases hl2 : j < K.length
      · rw [List.getElem?_append_left hl2] at hj
        exact h.kap i j u x hij hi hj
      · rw [List.getElem?_append_right (by omega)] at hj
        have e : j - K.length = 0 := by
          have := (List.getElem?_eq_some_iff.1 hj).1
          simp at this
          omega
        rw [e] at hj
        cases hj
        exact hk u (List.mem_of_getElem? hi)
    · rw [List.getElem?_append_right (by omega)] at hi
      have e : i - K.length = 0 := by
        have := (List.getElem?_eq_some_iff.1 hi).1
        simp at this
        omega
      rw [e] at hi
      cases hi
      by_cases hl2 : j < K.length
      · rw [List.getElem?_append_left hl2] at hj
        rcases hk x (List.mem_of_getElem? hj) with h0 | h0
        · rcases hu : v.ownBlock with _ | q
          · exact .inl rfl
          · right
            rw [h0]
            simp
        · exact .inr (Ne.symm h0)
      · rw [List.getElem?_append_right (by omega)] at hj
        have := (List.getElem?_eq_some_iff.1 hj).1
        simp at this
        omega
set_option maxHeartbeats 4000000 in
set_option maxRecDepth 100000 in
theorem leaf_new (base p : Nat) (F : Fo) (nv : Value) (bl br be : Nat) (K : List Value) (s : Int) (w : World) (h : FoAt base w p F nv bl br be K) (hbw : base ≤ w.heap.size) (hs : (Lit.int .u8 s).wf = true) (hf : F.lv (.int .u8 s) = none) (hn : F.nodes.length ≤ 100000000) (hnl : F.nl ≤ 100000000) :
    Calls Tryd.prog 63 #[.pointer (some ⟨p, 0, none⟩), .int .u8 s] w fun e w' => e = .returned (.int .i64 (F.nodes.length : Int)) ∧ ∃ nv', FoAt base w' p (F.newLeaf s) nv' bl br be (K ++ [.slice none 0 0]) ∧ Below base w w' ∧ Fr w w' := by
  obtain ⟨A, c, rfl⟩ := own_slice h.row
  have H := Aside0.mk h
  have c2_ := (blk_cell h.box 2).trans (show _ = some (Value.map (some bl)) from rfl)
  have c1_ := (blk_cell h.box 1).trans (show _ = some (Value.slice A F.nodes.length c) from rfl)
  have hlook := h.lvm.look (t := 112) key8 Tryd.underlying112 (keyOf_int_mk Tryd.underlying5 hs)
  rw [hf] at hlook
  have hmx : (100000001 : Nat) ≤ maxLen := by decide
  have hwf : (Lit.int .i64 (F.nodes.length : Int)).wf = true := by
    simp [Lit.wf, IntKind.min, IntKind.max, IntKind.bits, IntKind.signed]
    omega
  have hub := Tryd.underlying49
  clear h
  go_enter Tryd.func63, Tryd.ntmps63
  go_wp2_with (first
    | (at_mapUpdate; refine wp_put rfl _ _ _ _ rfl rfl rfl rfl (H.out.lvm.put (t := 112) key8 Tryd.underlying112 (by omega) (keyOf_int_mk Tryd.underlying5 hs) trivial hf (F.nodes.length : Int) hwf) ?_; rintro w1 ⟨hm1, hg1⟩; have H1 := Aside0.mk (H.out.putl hm1 hg1); have R1 := Aside0.mk (Fr.map H.out.lvm hg1); have HB1 := Aside0.mk ((Below.refl base w).grown hg1 hbw (fun k hk => by cases hk; exact H.out.gl)); clear hlook c1_ c2_ hm1 hg1; have c1_ := (blk_cell H1.out.box 1).trans (show _ = some (Value.slice A F.nodes.length c) from rfl); have f1_ := blk_frozen H1.out.box 1)
    | (at_builtin; refine print_append_cells (w0 := w) (W := w1) base rfl (.tmp 33) (.tmp 36) 22 49 (.agg #[.int .u8 0, .slice none 0 0]) 2 32 rfl Tryd.underlying22 (by kernel_rfl) rfl (by decide) (by decide) _ F.nodes.length (ncells F.nodes K F.nodes.length) [.int .u8 s, .slice none 0 0] rfl (by first | rfl | (go_simp; done) | (simp [Act.eval]; done)) rfl (by intro u hu; simp at hu; rcases hu with rfl | rfl <;> rfl) H1.out.row HB1.out (Nat.le_trans hbw HB1.out.size) (by omega) ?_; intro v1_ w2 ho_ hb_ hg_ hat_; replace hg_ : w1.grownBy w2 (Value.slice A F.nodes.length c).ownBlock := hg_; obtain ⟨g2, cp2, e2, _⟩ := ho_.form (by omega); subst e2; have H2 := Aside0.mk (H1.out.snoc s [] (.slice none 0 0) _ hg_ ho_ (own_nil _ _ _ _) (fun u _ => Classical.em (u.ownBlock = none))); have HB2 := Aside0.mk hb_; have R2 := Aside0.mk (R1.out.trans (Fr.row H1.out.row hg_)); clear c1_ f1_; have hbx := blk_grown H1.out.box hg_ (fun e => by obtain ⟨cs, hc⟩ := own_typed H1.out.row p e.symm; rw [H1.out.box] at hc; injection hc with hc; injection hc with _ hc; exact absurd hc (by decide)); have R3 := Aside0.mk (R2.out.trans (Fr.set (j := 1) (v := Value.slice (some ⟨g2, 0, none⟩) (F.nodes.length + 1) cp2) hbx)); have c1_ := blk_cell hbx 1; have f1_ := blk_frozen hbx 1; clear ho_ hb_ hg_ hat_ hbx))
  go_ret
  exact ⟨rfl, ⟨_, H2.out⟩, HB2.out.setCell H1.out.gp _, R3.out⟩
theorem leaf_calls (base p : Nat) (F : Fo) (nv : Value) (bl br be : Nat) (K : List Value) (s : Int) (w : World) (h : FoAt base w p F nv bl br be K) (hbw : base ≤ w.heap.size) (hs : (Lit.int .u8 s).wf = true) (hn : F.nodes.length ≤ 100000000) (hnl : F.nl ≤ 100000000) :
    Calls Tryd.prog 63 #[.pointer (some ⟨p, 0, none⟩), .int .u8 s] w fun e w' => e = .returned (.int .i64 (F.leaf s).2) ∧ ∃ nv' K', FoAt base w' p (F.leaf s).1 nv' bl br be K' ∧ Below base w w' ∧ Fr w w' ∧ KNew w K K' := by
  unfold Fo.leaf
  rcases hf : F.lv (.int .u8 s) with _ | id
  · refine (leaf_new base p F nv bl br be K s w h hbw hs hf hn hnl).mono ?_
    rintro e w' ⟨rfl, nv', h1, h2, h3⟩
    exact ⟨rfl, nv', _, h1, h2, h3, KNew.snoc (fun k hk => by cases hk)⟩
  · refine (leaf_old base p F nv bl br be K s id w h hs hf).mono ?_
    rintro e w' ⟨rfl, rfl⟩
    exact ⟨rfl, nv, K, h, Below.refl _ _, Fr.refl _, KNew.refl _ _⟩
end Go.Proofs.YtbnonnogkgbpiaaDoor.Forest
end
section
namespace Go.Proofs.YtbnonnogkgbpiaaDoor.Clone
open Go Go.RowKit Go.Proofs.YtbnonnogkgbpiaaDoorW.PrintWords Go.Proofs.YtbnonnogkgbpiaaDoorW.PrintLast Go.Proofs.YtbnonnogkgbpiaaDoorW.PrintMore
set_option linter.unusedVariables false
set_option linter.unusedSimpArgs false
set_option maxHeartbeats 4000000 in
set_option maxRecDepth 100000 in
theorem ints (A : Addr) (n c : Nat) (xs : List Int) (w : World) (hr : ReadsInt w .i64 (some A) n xs) (hn : n * 8 ≤ 140737488355328) :
    Calls Tryd.prog 86 #[.slice (some A) n c] w fun e w' => ∃ v, e = .returned v ∧ w'.ownsRow w.heap.size 3 1 v n (nums .i64 xs) ∧ Below w.heap.size w w' ∧ v ≠ .slice none 0 0 := by
  have hr2 := hr.allocS (.cells #[] 3)
  have h0 := own_lit w w.heap.size 3 .i64 [] (Nat.le_refl _) (by simp)
  have hB := Aside0.mk ((Below.refl w.heap.size w).alloc (Nat.le_refl _) (.cells #[] 3))
  have hx : xs.length = n := hr.1
  have heq : Sem.run Tryd.prog (binOp BinOp.eql 47 (Value.slice (some A) n c) (Value.slice none 0 0)) w = .ok (.bool false) w := rfl
  go_enter Tryd.func86, Tryd.ntmps86
  go_wp2_with (at_builtin; refine print_append_row (w0 := w) (W := w.alloc (.cells #[] 3)) w.heap.size rfl (.tmp 5) (.tmp 6) 47 3 .i64 8 rfl Tryd.underlying47 (by kernel_rfl) (by decide) (.slice (some ⟨w.heap.size, 0, none⟩) 0 0) [] xs (some A) n c rfl rfl h0 hr2 hB.out hB.out.size (by simp; omega) ?_; intro v1_ w2 ho_ hb_ hg_ hat_; have HO := Aside0.mk ho_; have HB2 := Aside0.mk hb_; have HN : v1_ ≠ .slice none 0 0 := (by rintro rfl; rcases hat_ with h | ⟨b, h, _⟩ <;> cases h); clear ho_ hb_ hg_ hat_)
  go_ret
  exact ⟨v1_, rfl, by have := HO.out; rw [List.nil_append, hx] at this; exact this, HB2.out, HN⟩
set_option maxHeartbeats 4000000 in
set_option maxRecDepth 100000 in
theorem bytes (A : Addr) (n c : Nat) (xs : List Int) (w : World) (hr : ReadsInt w .u8 (some A) n xs) (hn : n ≤ 140737488355328) :
    Calls Tryd.prog 72 #[.slice (some A) n c] w fun e w' => ∃ v, e = .returned v ∧ w'.ownsRow w.heap.size 5 1 v n (nums .u8 xs) ∧ Below w.heap.size w w' ∧ v ≠ .slice none 0 0 := by
  have hr2 := hr.allocS (.cells #[] 5)
  have h0 := own_lit w w.heap.size 5 .u8 [] (Nat.le_refl _) (by simp)
  have hB := Aside0.mk ((Below.refl w.heap.size w).alloc (Nat.le_refl _) (.cells #[] 5))
  have hx : xs.length = n := hr.1
  have heq : Sem.run Tryd.prog (binOp BinOp.eql 33 (Value.slice (some A) n c) (Value.slice none 0 0)) w = .ok (.bool false) w := rfl
  go_enter Tryd.func72, Tryd.ntmps72
  go_wp2_with (at_builtin; refine print_append_row (w0 := w) (W := w.alloc (.cells #[] 5)) w.heap.size rfl (.tmp 5) (.tmp 6) 33 5 .u8 1 rfl Tryd.underlying33 (by kernel_rfl) (by decide) (.slice (some ⟨w.heap.size, 0, none⟩) 0 0) [] xs (some A) n c rfl rfl h0 hr2 hB.out hB.out.size (by simp; omega) ?_; intro v1_ w2 ho_ hb_ hg_ hat_; have HO := Aside0.mk ho_; have HB2 := Aside0.mk hb_; have HN : v1_ ≠ .slice none 0 0 := (by rintro rfl; rcases hat_ with h | ⟨b, h, _⟩ <;> cases h); clear ho_ hb_ hg_ hat_)
  go_ret
  exact ⟨v1_, rfl, by have := HO.out; rw [List.nil_append, hx] at this; exact this, HB2.out, HN⟩
end Go.Proofs.YtbnonnogkgbpiaaDoor.Clone
end
section
namespace Go.Proofs.YtbnonnogkgbpiaaDoor.Forest
open Go Go.RowKit Go.Maps Go.Proofs.YtbnonnogkgbpiaaDoor.MapI Go.Proofs.YtbnonnogkgbpiaaDoor.TreeKeys Go.Proofs.YtbnonnogkgbpiaaDoorW.PrintWords Go.Proofs.YtbnonnogkgbpiaaDoorW.PrintLast Go.Proofs.YtbnonnogkgbpiaaDoorW.PrintMore
set_option linter.unusedVariables false
set_option linter.unusedSimpArgs false
def Fo.step (F : Fo) (row k : Int) : Fo × Int := match F.rs (pk row k) with
  | some r => (F, r)
  | none => ({ F with rs := upd F.rs (pk row k) ((F.nr : Int) + 1), nr := F.nr + 1 }, (F.nr : Int) + 1)
def Fo.rowTo (F : Fo) (ks : List Int) : Nat → Fo × Int
  | 0 => (F, 0)
  | i + 1 => (F.rowTo ks i).1.step (F.rowTo ks i).2 (rd ks i)
def Fo.newBranch (F : Fo) (row : Int) (ks : List Int) : Fo := { F with nodes := F.nodes ++ [(0, ks)], en := upd F.en (.int .i64 row) (F.nodes.length : Int), ne := F.ne + 1 }
def Fo.ended (F : Fo) (row : Int) (ks : List Int) : Fo × Int := match F.en (.int .i64 row) with
  | some id => (F, id)
  | none => (F.newBranch row ks, (F.nodes.length : Int))
def Fo.branch (F : Fo) (ks : List Int) : Fo × Int := (F.rowTo ks ks.length).1.ended (F.rowTo ks ks.length).2 ks
def Fo.Fine (F : Fo) : Prop := ∀ kl r, F.rs kl = some r → 0 ≤ r ∧ r ≤ F.nr
theorem Fo.Fine.step {F : Fo} (h : F.Fine) (row k : Int) : (F.step row k).1.Fine ∧ 0 ≤ (F.step row k).2 ∧ (F.step row k).2 ≤ (F.step row k).1.nr ∧ (F.step row k).1.nr ≤ F.nr + 1 ∧ (F.step row k).1.nodes = F.nodes ∧ (F.step row k).1.st = F.st ∧ (F.step row k).1.en = F.en ∧ (F.step row k).1.ne = F.ne := by
  unfold Fo.step
  rcases hr : F.rs (pk row k) with _ | r
  · refine ⟨?_, by simp; omega, by simp, by simp, rfl, rfl, rfl, rfl⟩
    intro kl r hk
    simp only [upd] at hk
    split at hk
    · cases hk
      exact ⟨by omega, by simp⟩
    · have := h kl r hk
      exact ⟨this.1, by simp; omega⟩
  · have := h _ r hr
    exact ⟨h, this.1, this.2, by simp, rfl, rfl, rfl, rfl⟩
theorem Fo.Fine.rowTo {F : Fo} (h : F.Fine) (ks : List Int) : ∀ i, (F.rowTo ks i).1.Fine ∧ 0 ≤ (F.rowTo ks i).2 ∧ (F.rowTo ks i).2 ≤ (F.rowTo ks i).1.nr ∧ (F.rowTo ks i).1.nr ≤ F.nr + i ∧ (F.rowTo ks i).1.nodes = F.nodes ∧ (F.rowTo ks i).1.st = F.st ∧ (F.rowTo ks i).1.en = F.en ∧ (F.rowTo ks i).1.ne = F.ne
  | 0 => ⟨h, Int.le_refl _, by show (0 : Int) ≤ _; omega, Nat.le_refl _, rfl, rfl, rfl, rfl⟩
  | i + 1 => by
    obtain ⟨h1, h2, h3, h4, h5, h6, h7, h8⟩ := h.rowTo ks i
    obtain ⟨g1, g2, g3, g4, g5, g6, g7, g8⟩ := h1.step (F.rowTo ks i).2 (rd ks i)
    exact ⟨g1, g2, g3, by show ((F.rowTo ks i).1.step (F.rowTo ks i).2 (rd ks i)).1.nr ≤ _; omega, g5.trans h5, g6.trans h6, g7.trans h7, g8.trans h8⟩
theorem FoAt.putr {base p bl br be : Nat} {W W' : World} {F : Fo} {nv : Value} {K : List Value} (h : FoAt base W p F nv bl br be K) {f : Lit → Option Int} {n : Nat} (hm : MapI W' 139 br n f) (hg : W.grownBy W' (some br)) : FoAt base W' p { F with rs := f, nr := n } nv bl br be K := by
  obtain ⟨es, c, hb⟩ := h.rsm.obj
  have g : ∀ k, k < W.heap.size → k ≠ br → W'.heap[k]? = W.heap[k]? := fun k hk hne => hg.block k hk (by simpa using hne)
  exact ⟨(g p (blk_lt h.box) (ne_map hb h.box)).trans h.box, h.gp, h.gl, h.gr, h.ge, h.lr, h.le, h.re, own_move h.row (fun k hk => g k (own_lt h.row k hk) (fun e => ne_own hb h.row (e ▸ hk))), h.len,
    fun j v hj => own_move (h.kid j v hj) (fun k hk => g k (own_lt (h.kid j v hj) k hk) (fun e => ne_own hb (h.kid j v hj) (e ▸ hk))), h.kap, h.lvm.move (g bl h.lvm.lt h.lr), hm, h.enm.move (g be h.enm.lt (Ne.symm h.re))⟩
theorem FoAt.pute {base p bl br be : Nat} {W W' : World} {F : Fo} {nv : Value} {K : List Value} (h : FoAt base W p F nv bl br be K) {f : Lit → Option Int} {n : Nat} (hm : MapI W' 3 be n f) (hg : W.grownBy W' (some be)) : FoAt base W' p { F with en := f, ne := n } nv bl br be K := by
  obtain ⟨es, c, hb⟩ := h.enm.obj
  have g : ∀ k, k < W.heap.size → k ≠ be → W'.heap[k]? = W.heap[k]? := fun k hk hne => hg.block k hk (by simpa using hne)
  exact ⟨(g p (blk_lt h.box) (ne_map hb h.box)).trans h.box, h.gp, h.gl, h.gr, h.ge, h.lr, h.le, h.re, own_move h.row (fun k hk => g k (own_lt h.row k hk) (fun e => ne_own hb h.row (e ▸ hk))), h.len,
    fun j v hj => own_move (h.kid j v hj) (fun k hk => g k (own_lt (h.kid j v hj) k hk) (fun e => ne_own hb (h.kid j v hj) (e ▸ hk))), h.kap, h.lvm.move (g bl h.lvm.lt h.le), h.rsm.move (g br h.rsm.lt h.re), hm⟩
theorem own_putm {W W' : World} {k : TypeId} {b s base n size : Nat} {f : Lit → Option Int} {e : TypeId} {v : Value} {xs : List Value} (hm : MapI W k b s f) (h : W.ownsRow base e size v n xs) (hg : W.grownBy W' (some b)) : W'.ownsRow base e size v n xs := by
  obtain ⟨es, c, hb⟩ := hm.obj
  exact own_move h (fun q hq => hg.block q (own_lt h q hq) (by
    intro e
    cases e
    exact ne_own hb h hq))
theorem own_ge {w : World} {base : Nat} {e : TypeId} {size n : Nat} {v : Value} {xs : List Value} (h : w.ownsRow base e size v n xs) (k : Nat) (hk : v.ownBlock = some k) : base ≤ k := by
  rcases h.2 with ⟨rfl, _⟩ | ⟨g, cap, cur, rfl, hb, _⟩
  · cases hk
  · cases hk
    exact hb
theorem wf64 {x : Int} (h0 : 0 ≤ x) (h1 : x ≤ 4000000000) : (Lit.int .i64 x).wf = true := by
  simp [Lit.wf, IntKind.min, IntKind.max, IntKind.bits, IntKind.signed]
  omega
set_option maxHeartbeats 4000000 in
set_option maxRecDepth 100000 in
theorem branch_calls (base p : Nat) (F : Fo) (nv : Value) (bl br be : Nat) (K0 : List Value) (g cap : Nat) (ks : List Int) (w : World) (h : FoAt base w p F nv bl br be K0) (hbw : base ≤ w.heap.size) (hF : F.Fine)
    (ho : w.ownsRow base 3 1 (.slice (some ⟨g, 0, none⟩) ks.length cap) ks.length (nums .i64 ks)) (hk : ∀ k ∈ ks, 0 ≤ k ∧ k ≤ 100000000) (hl : ks.length ≤ 100000000) (hnr : F.nr ≤ 1000000000) (hn : F.nodes.length ≤ 100000000) (hne : F.ne ≤ 100000000) :
    Calls Tryd.prog 64 #[.pointer (some ⟨p, 0, none⟩), .slice (some ⟨g, 0, none⟩) ks.length cap] w fun e w' => e = .returned (.int .i64 (F.branch ks).2) ∧ ∃ nv' K', FoAt base w' p (F.branch ks).1 nv' bl br be K' ∧ Below base w w' ∧ Fr w w' ∧ KNew w K0 K' := by
  have H := Aside0.mk h
  have HO := Aside0.mk ho
  have HB := Aside0.mk (Below.refl base w)
  have RR := Aside0.mk (Fr.refl w)
  have HL := Aside0.mk (And.intro hl (And.intro hnr (And.intro hn hne)))
  have HK := Aside0.mk hk
  have hmx : (100000001 : Nat) ≤ maxLen := by decide
  have hmx2 : (2000000001 : Nat) ≤ maxLen := by decide
  have HM := Aside0.mk (And.intro hmx hmx2)
  clear h ho hl hnr hn hne hk hmx hmx2
  go_enter Tryd.func64, Tryd.ntmps64
  go_wp2_with fail
  go_loopg [5, 14] ks.length (fun g_ s5 s14 wr => ∃ (x : Int) (F1 : Fo) (r1 : Int), s14 = .int .i64 x ∧ s5 = .int .i64 r1 ∧ Aside0 (F.rowTo ks x.toNat = (F1, r1)) ∧ Aside0 (0 ≤ x ∧ (g_ : Int) = ks.length - x) ∧ Aside0 (FoAt base wr p F1 nv bl br be K0) ∧ Aside0 (wr.ownsRow base 3 1 (.slice (some ⟨g, 0, none⟩) ks.length cap) ks.length (nums .i64 ks)) ∧ Aside0 (Below base w wr) ∧ Aside0 (Fr w wr))
  case atStart => exact ⟨0, F, 0, rfl, rfl, ⟨rfl⟩, ⟨by omega, by omega⟩, H, HO, HB, RR⟩
  case round =>
    obtain ⟨x, F1, r1, rfl, rfl, HE, HX, HT, HO, HB, RR⟩ := hrel
    clear H
    have b1_ := (blk_cell HT.out.box 1).trans (show _ = some nv from rfl)
    have b3_ := (blk_cell HT.out.box 3).trans (show _ = some (Value.map (some br)) from rfl)
    have b4_ := (blk_cell HT.out.box 4).trans (show _ = some (Value.map (some be)) from rfl)
    obtain ⟨f1, f2, f3, f4, f5, f6, f7, f8⟩ := hF.rowTo ks x.toNat
    rw [HE.out] at f1 f2 f3 f4 f5 f6 f7 f8
    dsimp only at f1 f2 f3 f4 f5 f6 f7 f8
    have HF := Aside0.mk (And.intro f2 (And.intro f3 (And.intro f4 (And.intro (congrArg List.length f5) (And.intro f7 f8)))))
    have hrw : (Lit.int .i64 r1).wf = true := wf64 f2 (by have := HL.out; have := HX.out; omega)
    clear f1 f2 f3 f4 f5 f6 f7 f8
    by_cases q : x < (ks.length : Int)
    · have p0 : 0 ≤ x := HX.out.1
      have k0_ := (own_at HO.out x p0 q).1
      have w1_ : wrap64 (x + 1) = x + 1 := by have := HL.out; unfold wrap64; omega
      have hkr : 0 ≤ rd ks x ∧ rd ks x ≤ 100000000 := HK.out _ (by
        unfold rd
        rw [List.getD_eq_getElem?_getD, List.getElem?_eq_getElem (show x.toNat < ks.length by omega)]
        exact List.getElem_mem _)
      have hkw : (Lit.int .i64 (rd ks x)).wf = true := wf64 hkr.1 (by omega)
      have hstep : F.rowTo ks (x + 1).toNat = F1.step r1 (rd ks x) := by
        rw [show (x + 1).toNat = x.toNat + 1 by omega]
        show (F.rowTo ks x.toNat).1.step (F.rowTo ks x.toNat).2 (rd ks (x.toNat : Int)) = _
        rw [show ((x.toNat : Nat) : Int) = x by omega, HE.out]
      have HS := Aside0.mk hstep
      clear hkr hstep
      generalize rd ks x = k at *
      have hlen := HT.out.rsm.len (t := 113) Tryd.underlying113 3
      have hlook := HT.out.rsm.look (t := 113) keyP Tryd.underlying113 (pair_key _ _ hrw hkw)
      rcases hr : F1.rs (pk r1 k) with _ | r
      · have HR := Aside0.mk hr
        rw [hr] at hlook
        have w2_ : wrap64 ((F1.nr : Int) + 1) = (F1.nr : Int) + 1 := by have := HL.out; have := HF.out; have := HX.out; unfold wrap64; omega
        have hv : (Lit.int .i64 ((F1.nr : Int) + 1)).wf = true := wf64 (by omega) (by have := HL.out; have := HF.out; have := HX.out; omega)
        have HV := Aside0.mk (HT.out.rsm.put (t := 113) keyP Tryd.underlying113 (by have := HL.out; have := HF.out; have := HX.out; have := HM.out; omega) (pair_key _ _ hrw hkw) (pk_lit _ _) HR.out ((F1.nr : Int) + 1) hv)
        clear hr hv
        go_wp2_with (first
          | (at_mapUpdate; refine wp_put rfl _ _ _ _ rfl rfl rfl (congrArg (Value.int .i64) w2_) HV.out ?_; rintro w1 ⟨hm1, hg1⟩; have H1 := Aside0.mk (HT.out.putr hm1 hg1); have RR1 := Aside0.mk (RR.out.trans (Fr.map HT.out.rsm hg1)); have HO1 := Aside0.mk (own_putm HT.out.rsm HO.out hg1); have HB1 := Aside0.mk (HB.out.grown hg1 (Nat.le_trans hbw HB.out.size) (fun k hk => by cases hk; exact HT.out.gr)); clear hlook hlen b1_ b3_ b4_ k0_ hm1 hg1))
        go_roundg (ks.length - (x + 1).toNat)
        case measure => go_light; have := HX.out; omega
        case rel =>
          go_light
          have e : F.rowTo ks (x + 1).toNat = ({ F1 with rs := upd F1.rs (pk r1 k) ((F1.nr : Int) + 1), nr := F1.nr + 1 }, (F1.nr : Int) + 1) := by
            rw [HS.out]
            unfold Fo.step
            rw [HR.out]
          exact ⟨x + 1, _, _, by simp [w1_], rfl, ⟨e⟩, ⟨by omega, by have := HX.out; omega⟩, H1, HO1, HB1, RR1⟩
      · have HR := Aside0.mk hr
        rw [hr] at hlook
        clear hr
        go_wp2_with fail
        go_roundg (ks.length - (x + 1).toNat)
        case measure => go_light; have := HX.out; omega
        case rel =>
          go_light
          have e : F.rowTo ks (x + 1).toNat = (F1, r) := by
            rw [HS.out]
            unfold Fo.step
            rw [HR.out]
          exact ⟨x + 1, _, _, by simp [w1_], rfl, ⟨e⟩, ⟨by omega, by have := HX.out; omega⟩, HT, HO, HB, RR⟩
    · have hx : x.toNat = ks.length := by have := HX.out; omega
      have HE := Aside0.mk (show F.rowTo ks ks.length = (F1, r1) by rw [← hx]; exact HE.out)
      clear hx
      have hlook := HT.out.enm.look (t := 107) keyI Tryd.underlying107 (keyOf_int_mk Tryd.underlying3 hrw)
      rcases hr : F1.en (.int .i64 r1) with _ | id
      · have HR := Aside0.mk hr
        rw [hr] at hlook
        clear hr
        obtain ⟨A, c, rfl⟩ := own_slice HT.out.row
        have hv : (Lit.int .i64 (F1.nodes.length : Int)).wf = true := wf64 (by omega) (by have := HL.out; have := HF.out; omega)
        have HV := Aside0.mk (HT.out.enm.put (t := 107) keyI Tryd.underlying107 (by have := HL.out; have := HF.out; have := HM.out; omega) (keyOf_int_mk Tryd.underlying3 hrw) trivial HR.out (F1.nodes.length : Int) hv)
        clear hv
        go_upto_region 15 with (first
          | (at_mapUpdate; refine wp_put rfl _ _ _ _ rfl rfl rfl rfl HV.out ?_; rintro w1 ⟨hm1, hg1⟩; have H1 := Aside0.mk (HT.out.pute hm1 hg1); have RR1 := Aside0.mk (RR.out.trans (Fr.map HT.out.enm hg1)); have HO1 := Aside0.mk (own_putm HT.out.enm HO.out hg1); have HB1 := Aside0.mk (HB.out.grown hg1 (Nat.le_trans hbw HB.out.size) (fun k hk => by cases hk; exact HT.out.ge)); clear hlook b1_ b3_ b4_ hm1 hg1))
        --REGION
        refine start_ (n := 13) (S := fun w' => w'.cell? ⟨p, 1, none⟩ = some (.slice A F1.nodes.length c)) (ds := [12]) #[false, false, false, false, false, false, false, false, false, false, false, false, false] (by kernel_rfl) rfl rfl ((blk_cell H1.out.box 1).trans rfl) (fun hHeld => ?_)
        have H2 := Aside0.mk (H1.out.on (below_drew (Below.refl _ _)))
        have HO2 := Aside0.mk (own_move (w1 := w1.drew) HO1.out (fun _ _ => rfl))
        have HB2 := Aside0.mk (below_drew1 HB1.out)
        have RR2 := Aside0.mk (show Fr w w1.drew from RR1.out)
        have HSZ := Aside0.mk (show w.heap.size ≤ w1.drew.heap.size from HB1.out.size)
        generalize w1.drew = wx at H2 HO2 HB2 RR2 HSZ hHeld ⊢
        clear H1 HO1 HB1 HT HO HB
        refine pure_ (i := 0) (N := (some 69)) (v := ?_) (a' := ?_) #[true, false, false, false, false, false, false, false, false, false, false, false, false] rfl rfl (by kernel_rfl) (fun _ _ _ h => h) (Or.inl ⟨by rfl, ?_⟩) ?_ ?_
        rotate_left
        · intro w'
          go_simp
          with_reducible rfl
        rotate_left
        · simp only [Act.put, List.setIfInBounds_toArray, List.set_cons_zero, List.set_cons_succ, i64_w, i32_w]
          rfl
        refine pure_ (i := 1) (N := (some 70)) (v := ?_) (a' := ?_) #[true, true, false, false, false, false, false, false, false, false, false, false, false] rfl rfl (by kernel_rfl) (fun _ _ _ h => h) (Or.inl ⟨by rfl, ?_⟩) ?_ ?_
        rotate_left
        · intro w'
          go_simp
          with_reducible rfl
        rotate_left
        · simp only [Act.put, List.setIfInBounds_toArray, List.set_cons_zero, List.set_cons_succ, i64_w, i32_w]
          rfl
        refine pure_ (i := 2) (N := (some 71)) (v := ?_) (a' := ?_) #[true, true, true, false, false, false, false, false, false, false, false, false, false] rfl rfl (by kernel_rfl) (fun _ _ _ h => h) (Or.inl ⟨by rfl, ?_⟩) ?_ ?_
        rotate_left
        · intro w'
          go_simp
          with_reducible rfl
        rotate_left
        · simp only [Act.put, List.setIfInBounds_toArray, List.set_cons_zero, List.set_cons_succ, i64_w, i32_w]
          rfl
        refine pure_ (i := 3) (N := (some 72)) (v := ?_) (a' := ?_) #[true, true, true, true, false, false, false, false, false, false, false, false, false] rfl rfl (by kernel_rfl) (fun _ _ _ h => h) (Or.inl ⟨by rfl, ?_⟩) ?_ ?_
        rotate_left
        · intro w'
          go_simp
          with_reducible rfl
        rotate_left
        · simp only [Act.put, List.setIfInBounds_toArray, List.set_cons_zero, List.set_cons_succ, i64_w, i32_w]
          rfl
        refine take_ (i := 4) (N := (some 73)) (v := ?_) (a' := ?_) #[true, true, true, true, true, false, false, false, false, false, false, false, false] rfl rfl (by kernel_rfl) (fun _ _ _ h => h) (Or.inl ⟨by rfl, ?_⟩) hHeld ?_ ?_
        rotate_left
        · rintro w' s0
          go_simp
          with_reducible rfl
        rotate_left
        · simp only [Act.put, List.setIfInBounds_toArray, List.set_cons_zero, List.set_cons_succ, i64_w, i32_w]
          rfl
        refine pure_ (i := 5) (N := (some 74)) (v := ?_) (a' := ?_) #[true, true, true, true, true, true, false, false, false, false, false, false, false] rfl rfl (by kernel_rfl) (fun _ _ _ h => h) (Or.inl ⟨by rfl, ?_⟩) ?_ ?_
        rotate_left
        · intro w'
          go_simp
          with_reducible rfl
        rotate_left
        · simp only [Act.put, List.setIfInBounds_toArray, List.set_cons_zero, List.set_cons_succ, i64_w, i32_w]
          rfl
        refine one_ (i := 6) (N := (some 75)) #[true, true, true, true, true, true, true, false, false, false, false, false, false] rfl rfl (by kernel_rfl) (by decide) (fun K hK => ?_)
        refine goes_ Tryd.func86 (by kernel_rfl) rfl #[.slice (some ⟨g, 0, none⟩) ks.length cap] (by rfl) rfl rfl (by (try simp only [List.map_toArray, List.map_cons, List.map_nil]); first | done | rfl) ?_
        with_reducible refine (Clone.ints ⟨g, 0, none⟩ ks.length cap ks wx (own_reads' HO2.out) (by have := HL.out; omega)).mono ?_
        rintro en_ w3 ⟨v, rfl, ho3, hb3, hn3⟩
        obtain ⟨A3, c3, rfl⟩ := own_slice ho3
        refine ⟨_, rfl, ?_⟩
        have H3 := Aside0.mk (H2.out.on hb3)
        have HB3 := Aside0.mk (HB2.out.trans (hb3.mono (Nat.le_trans hbw HB2.out.size)))
        have RR3 := Aside0.mk (RR2.out.trans (Fr.below hb3))
        have HO3 := Aside0.mk ho3
        clear ho3
        refine hK.out _ _ ((blk_cell H3.out.box 1).trans rfl) (fun hHeld => ?_)
        clear hK K
        refine pure_ (i := 7) (N := (some 76)) (v := ?_) (a' := ?_) #[true, true, true, true, true, true, true, true, false, false, false, false, false] rfl rfl (by kernel_rfl) (fun _ _ _ h => h) (Or.inl ⟨by rfl, ?_⟩) ?_ ?_
        rotate_left
        · intro w'
          go_simp
          with_reducible rfl
        rotate_left
        · simp only [Act.put, List.setIfInBounds_toArray, List.set_cons_zero, List.set_cons_succ, i64_w, i32_w]
          rfl
        refine one_ (i := 8) (N := (some 77)) #[true, true, true, true, true, true, true, true, true, false, false, false, false] rfl rfl (by kernel_rfl) (by decide) (fun K hK => ?_)
        refine value_ (w1 := w3.alloc (.cells #[.int .u8 0, .slice A3 ks.length c3] 49)) (v := .slice (some ⟨w3.heap.size, 0, none⟩) 1 1) (by rfl) rfl ?_ ?_
        · go_simp
        refine hK.out _ _ ((blk_cell (H3.out.on ((Below.refl _ _).alloc (Nat.le_refl _) (.cells #[.int .u8 0, .slice A3 ks.length c3] 49))).box 1).trans rfl) (fun hHeld => ?_)
        clear hK K
        refine one_ (i := 9) (N := (some 78)) #[true, true, true, true, true, true, true, true, true, true, false, false, false] rfl rfl (by kernel_rfl) (by decide) (fun K hK => ?_)
        refine step_append_cells (w0 := w) (W := w3) base (by rfl) (.tmp 73) (.tmp 77) 22 49 (.agg #[.int .u8 0, .slice none 0 0]) 2 32 rfl Tryd.underlying22 (by kernel_rfl) rfl (by decide) (by decide) (.slice A F1.nodes.length c) F1.nodes.length (ncells F1.nodes K0 F1.nodes.length) [.int .u8 0, .slice A3 ks.length c3] rfl rfl rfl (by intro u hu; simp at hu; rcases hu with hu | hu; (rw [hu]; rfl); (rw [hu]; rfl)) H3.out.row HB3.out (Nat.le_trans hbw HB3.out.size) (by have := HL.out; have := HF.out; omega) ?_
        intro v1_ w4 ho_ hb_ hg_ hat_
        obtain ⟨A4, c4, rfl⟩ := own_slice ho_
        have H4 := Aside0.mk (H3.out.snoc 0 ks (.slice A3 ks.length c3) _ hg_ ho_ (own_weaken (own_move HO3.out (fun k hk => hg_.block k (own_lt HO3.out k hk) (fun e => by have h1 := own_lt H2.out.row k e.symm; have h2 := own_ge HO3.out k hk; omega))) (Nat.le_trans hbw HB2.out.size)) (fun u hu => by
          obtain ⟨j, hj, rfl⟩ := List.mem_iff_getElem.1 hu
          rcases hq : (K0[j]).ownBlock with _ | q
          · exact .inl rfl
          · right
            intro e
            have h1 := own_lt (H2.out.kid j _ (List.getElem?_eq_getElem hj)) q hq
            have h2 := own_ge HO3.out q e.symm
            omega))
        have HB4 := Aside0.mk hb_
        have RR4 := Aside0.mk (RR3.out.trans (Fr.row H3.out.row hg_))
        have hbx := blk_grown H3.out.box hg_ (fun e => by obtain ⟨cs, hc⟩ := own_typed H3.out.row p e.symm; rw [H3.out.box] at hc; injection hc with hc; injection hc with _ hc; exact absurd hc (by decide))
        clear ho_ hb_ hg_ hat_
        have HX4 := Aside0.mk hbx
        clear hbx
        refine hK.out _ _ ((blk_cell HX4.out 1).trans rfl) (fun hHeld => ?_)
        clear hK K
        refine pure_ (i := 10) (N := (some 79)) (v := ?_) (a' := ?_) #[true, true, true, true, true, true, true, true, true, true, true, false, false] rfl rfl (by kernel_rfl) (fun _ _ _ h => h) (Or.inl ⟨by rfl, ?_⟩) ?_ ?_
        rotate_left
        · intro w'
          go_simp
          with_reducible rfl
        rotate_left
        · simp only [Act.put, List.setIfInBounds_toArray, List.set_cons_zero, List.set_cons_succ, i64_w, i32_w]
          rfl
        refine pure_ (i := 11) (N := (some 80)) (v := ?_) (a' := ?_) #[true, true, true, true, true, true, true, true, true, true, true, true, false] rfl rfl (by kernel_rfl) (fun _ _ _ h => h) (Or.inl ⟨by rfl, ?_⟩) ?_ ?_
        rotate_left
        · intro w'
          go_simp
          with_reducible rfl
        rotate_left
        · simp only [Act.put, List.setIfInBounds_toArray, List.set_cons_zero, List.set_cons_succ, i64_w, i32_w]
          rfl
        refine last_ (i := 12) (N := none) #[true, true, true, true, true, true, true, true, true, true, true, true, true] rfl rfl (by kernel_rfl) (by decide) (fun K hK => ?_)
        have s_ := (blk_cell HX4.out 1)
        have r_ := blk_frozen HX4.out 1
        refine skip_ (w1 := ?_) (by rfl) rfl ?_ ?_
        rotate_left
        · go_simp
          rfl
        clear r_ s_
        refine hK.out _ _ ?_
        clear hK K
        refine done_ (by kernel_rfl) ?_
        go_wp2
        go_ret
        go_light
        have e : F.branch ks = (F1.newBranch r1 ks, (F1.nodes.length : Int)) := by
          unfold Fo.branch
          rw [HE.out]
          show F1.ended r1 ks = _
          unfold Fo.ended
          rw [HR.out]
        rw [e]
        exact ⟨rfl, _, _, H4.out, HB4.out.setCell H4.out.gp _, RR4.out.trans (Fr.set HX4.out), KNew.snoc (fun k hk => Nat.le_trans HSZ.out (own_ge HO3.out k hk))⟩
      · have HR := Aside0.mk hr
        rw [hr] at hlook
        clear hr
        go_wp2_with fail
        go_ret
        go_light
        have e : F.branch ks = (F1, id) := by
          unfold Fo.branch
          rw [HE.out]
          show F1.ended r1 ks = _
          unfold Fo.ended
          rw [HR.out]
        rw [e]
        exact ⟨rfl, _, _, HT.out, HB.out, RR.out, KNew.refl _ _⟩
end Go.Proofs.YtbnonnogkgbpiaaDoor.Forest
end
section
namespace Go.Proofs
open Go.Shelf
def Tryd.lays170_ren : Go.Shelf.Ren := ⟨fun | 170 => 54 | n => n, fun | 70 => 87 | 3 => 3 | 0 => 0 | 72 => 89 | 37 => 33 | 5 => 5 | n => n, fun | n => n⟩
theorem Tryd.lays170 : Go.Proofs.Lays.n170 Tryd.prog Tryd.lays170_ren := {
  mixed := by kernel_rfl
  f170 := Tryd.func54.trans (congrArg some (by kernel_rfl))
  t0 := Tryd.underlying0
  a0 := Tryd.isAgg0
  z0 := Tryd.sizeOf0
  v0 := Tryd.zeroValue0
  t3 := Tryd.underlying3
  a3 := Tryd.isAgg3
  z3 := Tryd.sizeOf3
  v3 := Tryd.zeroValue3
  t37 := Tryd.underlying33
  a37 := Tryd.isAgg33
  z37 := Tryd.sizeOf33
  v37 := Tryd.zeroValue33
  t70 := Tryd.underlying87
  a70 := Tryd.isAgg87
  z70 := Tryd.sizeOf87
  v70 := Tryd.zeroValue87
  t72 := Tryd.underlying89
  a72 := Tryd.isAgg89
  z72 := Tryd.sizeOf89
  v72 := Tryd.zeroValue89 }
open Go.RowKit in
theorem Tryd.Builder_Len (B b : Nat) (bs : List Value) (w : World) (h : Lib.IsBuilder 89 5 B b bs w) :
    Calls Tryd.prog 54 #[.pointer (some ⟨b, 0, none⟩)] w fun e w' => e = .returned (.int .i64 bs.length) ∧ w' = w := Any.Builder_Len Tryd.lays170 B b bs w h
def Tryd.lays169_ren : Go.Shelf.Ren := ⟨fun | 169 => 55 | n => n, fun | 70 => 87 | 9 => 9 | 0 => 0 | 72 => 89 | 37 => 33 | 127 => 137 | 3 => 3 | 5 => 5 | n => n, fun | n => n⟩
theorem Tryd.lays169 : Go.Proofs.Lays.n169 Tryd.prog Tryd.lays169_ren := {
  mixed := by kernel_rfl
  f169 := Tryd.func55.trans (congrArg some (by kernel_rfl))
  t0 := Tryd.underlying0
  a0 := Tryd.isAgg0
  z0 := Tryd.sizeOf0
  v0 := Tryd.zeroValue0
  t3 := Tryd.underlying3
  a3 := Tryd.isAgg3
  z3 := Tryd.sizeOf3
  v3 := Tryd.zeroValue3
  t9 := Tryd.underlying9
  a9 := Tryd.isAgg9
  z9 := Tryd.sizeOf9
  v9 := Tryd.zeroValue9
  t37 := Tryd.underlying33
  a37 := Tryd.isAgg33
  z37 := Tryd.sizeOf33
  v37 := Tryd.zeroValue33
  t70 := Tryd.underlying87
  a70 := Tryd.isAgg87
  z70 := Tryd.sizeOf87
  v70 := Tryd.zeroValue87
  t72 := Tryd.underlying89
  a72 := Tryd.isAgg89
  z72 := Tryd.sizeOf89
  v72 := Tryd.zeroValue89
  t127 := Tryd.underlying137
  a127 := Tryd.isAgg137
  z127 := Tryd.sizeOf137
  v127 := Tryd.zeroValue137 }
theorem Tryd.Builder_Extra_169 : Builder.Extra Tryd.prog Tryd.lays169_ren := {
  sizeBuilder := by kernel_rfl
  liesBuilder := by kernel_rfl
  t5 := Tryd.underlying5
  a5 := Tryd.isAgg5
  z5 := Tryd.sizeOf5
  v5 := Tryd.zeroValue5
  infoByte := by kernel_rfl
  cellsByte := by kernel_rfl
  sizeByte := by kernel_rfl
  neB5 := by decide }
open Go.RowKit in
theorem Tryd.Builder_String_any (B b : Nat) (l : List UInt8) (w : World) (h : Lib.IsBuilder 89 5 B b (Lib.byteCells l) w) (hBw : B ≤ w.heap.size) :
    Calls Tryd.prog 55 #[.pointer (some ⟨b, 0, none⟩)] w fun e w' => e = .returned (.string ⟨l.toArray⟩) ∧ Below B w w' := Any.Builder_String_any Tryd.lays169 Tryd.Builder_Extra_169 B b l w h hBw
def Tryd.laysM171_ren : Go.Shelf.Ren := ⟨fun | 171 => 52 | 243 => 85 | 246 => 89 | 283 => 90 | 284 => 91 | 285 => 92 | 286 => 93 | 129 => 95 | 317 => 94 | 318 => 96 | 319 => 97 | 320 => 98 | 337 => 99 | 338 => 100 | n => n, fun | 3 => 3 | 9 => 9 | 2 => 2 | 4 => 4 | 171 => 146 | 0 => 0 | 53 => 147 | 37 => 33 | 5 => 5 | 173 => 150 | 212 => 153 | 51 => 154 | 20 => 20 | 213 => 155 | 46 => 36 | 232 => 159 | 233 => 160 | n => n, fun | 17 => 0 | 18 => 1 | 19 => 2 | n => n⟩
theorem Tryd.laysM171 : Go.Proofs.LaysM.n171 Tryd.prog Tryd.laysM171_ren := {
  mixed := by kernel_rfl
  f129 := Tryd.func95.trans (congrArg some (by kernel_rfl))
  f171 := Tryd.func52.trans (congrArg some (by kernel_rfl))
  f243 := Tryd.func85.trans (congrArg some (by kernel_rfl))
  f246 := Tryd.func89.trans (congrArg some (by kernel_rfl))
  f283 := Tryd.func90.trans (congrArg some (by kernel_rfl))
  f284 := Tryd.func91.trans (congrArg some (by kernel_rfl))
  f285 := Tryd.func92.trans (congrArg some (by kernel_rfl))
  f286 := Tryd.func93.trans (congrArg some (by kernel_rfl))
  f317 := Tryd.func94.trans (congrArg some (by kernel_rfl))
  f318 := Tryd.func96.trans (congrArg some (by kernel_rfl))
  f319 := Tryd.func97.trans (congrArg some (by kernel_rfl))
  f320 := Tryd.func98.trans (congrArg some (by kernel_rfl))
  f337 := Tryd.func99.trans (congrArg some (by kernel_rfl))
  f338 := Tryd.func100.trans (congrArg some (by kernel_rfl))
  t0 := Tryd.underlying0
  a0 := Tryd.isAgg0
  z0 := Tryd.sizeOf0
  v0 := Tryd.zeroValue0
  t2 := Tryd.underlying2
  a2 := Tryd.isAgg2
  z2 := Tryd.sizeOf2
  v2 := Tryd.zeroValue2
  t3 := Tryd.underlying3
  a3 := Tryd.isAgg3
  z3 := Tryd.sizeOf3
  v3 := Tryd.zeroValue3
  t4 := Tryd.underlying4
  a4 := Tryd.isAgg4
  z4 := Tryd.sizeOf4
  v4 := Tryd.zeroValue4
  t5 := Tryd.underlying5
  a5 := Tryd.isAgg5
  z5 := Tryd.sizeOf5
  v5 := Tryd.zeroValue5
  t9 := Tryd.underlying9
  a9 := Tryd.isAgg9
  z9 := Tryd.sizeOf9
  v9 := Tryd.zeroValue9
  t20 := Tryd.underlying20
  a20 := Tryd.isAgg20
  z20 := Tryd.sizeOf20
  v20 := Tryd.zeroValue20
  t37 := Tryd.underlying33
  a37 := Tryd.isAgg33
  z37 := Tryd.sizeOf33
  v37 := Tryd.zeroValue33
  t46 := Tryd.underlying36
  a46 := Tryd.isAgg36
  z46 := Tryd.sizeOf36
  v46 := Tryd.zeroValue36
  t51 := Tryd.underlying154
  a51 := Tryd.isAgg154
  z51 := Tryd.sizeOf154
  v51 := Tryd.zeroValue154
  t53 := Tryd.underlying147
  a53 := Tryd.isAgg147
  z53 := Tryd.sizeOf147
  v53 := Tryd.zeroValue147
  t171 := Tryd.underlying146
  a171 := Tryd.isAgg146
  z171 := Tryd.sizeOf146
  v171 := Tryd.zeroValue146
  t173 := Tryd.underlying150
  a173 := Tryd.isAgg150
  z173 := Tryd.sizeOf150
  v173 := Tryd.zeroValue150
  t212 := Tryd.underlying153
  a212 := Tryd.isAgg153
  z212 := Tryd.sizeOf153
  v212 := Tryd.zeroValue153
  t213 := Tryd.underlying155
  a213 := Tryd.isAgg155
  z213 := Tryd.sizeOf155
  t232 := Tryd.underlying159
  a232 := Tryd.isAgg159
  z232 := Tryd.sizeOf159
  v232 := Tryd.zeroValue159
  t233 := Tryd.underlying160
  a233 := Tryd.isAgg160
  z233 := Tryd.sizeOf160
  v233 := Tryd.zeroValue160
  g17 := by kernel_rfl
  g18 := by kernel_rfl
  g19 := by kernel_rfl
  i0 := by kernel_rfl
  i2 := by kernel_rfl
  i3 := by kernel_rfl
  i4 := by kernel_rfl
  i5 := by kernel_rfl
  i9 := by kernel_rfl
  i20 := by kernel_rfl
  i37 := by kernel_rfl
  i46 := by kernel_rfl
  i51 := by kernel_rfl
  i53 := by kernel_rfl
  i171 := by kernel_rfl
  i173 := by kernel_rfl
  i212 := by kernel_rfl
  i232 := by kernel_rfl
  i233 := by kernel_rfl
  m17 := by kernel_rfl
  m18 := by kernel_rfl
  m19 := by kernel_rfl }
open Go.RowKit Go.Sort Go.Lib in
theorem Tryd.strconv_Itoa (n : Int) (h0 : -9223372036854775808 ≤ n) (h1 : n ≤ 9223372036854775807) (w : World) (htab : Lib.TabIs Tryd.prog w "internal/strconv.uint64pow10" .u64 Lib.pow10Tab) :
    Calls Tryd.prog 52 #[.int .i64 n] w fun e w' => e = .returned (.string ⟨(Lib.itoa n).toArray⟩) ∧ ∃ k os, w' = grow (w.drewN k) os := Any.strconv_Itoa Tryd.laysM171 n h0 h1 w htab
end Go.Proofs
end
section
namespace Go.Proofs.YtbnonnogkgbpiaaDoor.Bld
open Go.RowKit Go.Shelf
set_option linter.unusedVariables false
theorem X : Builder.Extra Tryd.prog Tryd.lays169_ren := Tryd.Builder_Extra_169
set_option maxHeartbeats 1000000 in
set_option maxRecDepth 100000 in
theorem check_used (b : Nat) (w : World) (h0 : w.cell? ⟨b, 0, none⟩ = some (.pointer (some ⟨b, 0, none⟩))) :
    Calls Tryd.prog 84 #[.pointer (some ⟨b, 0, none⟩)] w fun e w' => e = .returned (.tuple #[]) ∧ w' = w := by
  obtain ⟨j, hj, _⟩ := Option.map_eq_some_iff.1 X.sizeBuilder
  go_enter Tryd.func84, Tryd.ntmps84
  go_wp2
  rw [Lib.run_neq_ptr_same w _ Tryd.underlying87 hj]
  go_wp2
  go_end0
  exact ⟨rfl, rfl⟩
set_option maxHeartbeats 1000000 in
set_option maxRecDepth 100000 in
theorem check_fresh (b : Nat) (w : World) (h0 : w.cell? ⟨b, 0, none⟩ = some (.pointer none)) (hsh : w.shape? b = some (89, 2)) (hfz : w.frozen? ⟨b, 0, none⟩ = false) :
    Calls Tryd.prog 84 #[.pointer (some ⟨b, 0, none⟩)] w fun e w' => e = .returned (.tuple #[]) ∧ w' = w.setCell ⟨b, 0, none⟩ (.pointer (some ⟨b, 0, none⟩)) := by
  obtain ⟨j, hj, hjs⟩ := Option.map_eq_some_iff.1 X.sizeBuilder
  go_enter Tryd.func84, Tryd.ntmps84
  go_wp2
  rw [Lib.run_to_unsafe w ⟨b, 0, none⟩ Tryd.underlying87 Tryd.underlying143 hj (by rw [hjs]; decide) hsh (Nat.zero_lt_succ 1)]
  simp only [Result.andThen]
  rw [Oper.upon_value]
  go_wp2
  rw [run_callFunc_extern Tryd.func88 (by kernel_rfl) (by kernel_rfl) (by kernel_rfl) (e := Extern.AbiNoEscape.same) (by kernel_rfl)]
  rw [Lib.run_noEscape]
  simp only [Result.andThen]
  rw [Oper.upon_value]
  go_wp2
  rw [Lib.run_from_unsafe w ⟨b, 0, none⟩ Tryd.underlying143 Tryd.underlying87 hj hsh X.liesBuilder]
  simp only [Result.andThen]
  rw [Oper.upon_value]
  go_wp2
  go_end0
  exact ⟨rfl, rfl⟩
theorem check (B b : Nat) (bs : List Value) (w : World) (h : Lib.IsBuilder 89 5 B b bs w) :
    Calls Tryd.prog 84 #[.pointer (some ⟨b, 0, none⟩)] w fun e w' => e = .returned (.tuple #[]) ∧ (Lib.BuilderAt 89 5 B b (.pointer (some ⟨b, 0, none⟩)) bs w' ∧ Below B w w' ∧ Lib.OthersKept 5 (some b) w w') := by
  rcases h with h | h
  · refine (check_fresh b w h.cell0 h.shape h.frozen0).mono ?_
    rintro e w' ⟨rfl, rfl⟩
    exact ⟨rfl, h.used _, (Below.refl B w).setCell (p := ⟨b, 0, none⟩) h.1 _, (Lib.OthersKept.refl _ _ w).setCell ⟨b, 0, none⟩ rfl _⟩
  · refine (check_used b w h.cell0).mono ?_
    rintro e w' ⟨rfl, rfl⟩
    exact ⟨rfl, h, Below.refl B _, Lib.OthersKept.refl _ _ _⟩
theorem in_heap {w : World} {b : Nat} {o : Obj} (h : w.heap[b]? = some o) : b < w.heap.size := by
  rcases Nat.lt_or_ge b w.heap.size with h' | h'
  · exact h'
  · simp [Array.getElem?_eq_none h'] at h
set_option maxHeartbeats 2000000 in
set_option maxRecDepth 100000 in
theorem byte (B b : Nat) (bs : List Value) (c : Int) (w : World) (h : Lib.IsBuilder 89 5 B b bs w) (hlen : bs.length + 1 ≤ 140737488355328) (hBw : B ≤ w.heap.size) :
    Calls Tryd.prog 53 #[.pointer (some ⟨b, 0, none⟩), .int .u8 c] w fun e w' => e = .returned .nilIface ∧ (Lib.IsBuilder 89 5 B b (bs ++ [.int .u8 c]) w' ∧ Below B w w' ∧ Lib.OthersKept 5 (some b) w w') := by
  obtain ⟨i0, hi, hz0, hz1, hz2⟩ := info_parts X.infoByte
  go_enter Tryd.func53, Tryd.ntmps53
  go_wp2_with (go_at_call 84; refine (check B b bs _ h).mono ?_)
  rintro e w1 ⟨rfl, h1, hb1, hk1⟩
  obtain ⟨hB, v, hbk, hown, hne⟩ := h1
  have c0 : w1.cell? ⟨b, 0, none⟩ = some (.pointer (some ⟨b, 0, none⟩)) := by rw [Lib.cell_of_heap hbk]; rfl
  have c1 : w1.cell? ⟨b, 1, none⟩ = some v := by rw [Lib.cell_of_heap hbk]; rfl
  have hlt : b < w1.heap.size := in_heap hbk
  go_wp2_with (at_builtin; refine wpList_append_own _ rfl _ _ 33 rfl B 5 i0 (.int .u8 0) 1 1 Tryd.underlying33 hi hz0 hz1 hz2 rfl (by decide) _ _ _ rfl (hown.alloc _) ⟨w1.heap.size, 0, none⟩ 1 1 [.int .u8 c] rfl rfl ?c1 ?c2 ?c3 ?c4 ?c5 ?_)
  case c1 =>
    intro j u hj
    match j, hj with
    | 0, hj => simp at hj; subst hj; simp [Addr.add]
  case c2 => intro u hu; simp at hu; subst hu; rfl
  case c3 => unfold maxLen; omega
  case c4 => omega
  case c5 => have := hb1.size; simp; omega
  intro v' w2 hown' hgrow _
  have hb2 : w2.heap[b]? = some (.cells #[.pointer (some ⟨b, 0, none⟩), v] 89 (0, 0)) := by
    rw [hgrow.block b (by simp; omega) (fun e => hne e.symm), Lib.alloc_old w1 _ b hlt]
    exact hbk
  have d0 : w2.cell? ⟨b, 0, none⟩ = some (.pointer (some ⟨b, 0, none⟩)) := by rw [Lib.cell_of_heap hb2]; rfl
  have d1 : w2.cell? ⟨b, 1, none⟩ = some v := by rw [Lib.cell_of_heap hb2]; rfl
  have f1 : w2.frozen? ⟨b, 1, none⟩ = false := Lib.frozen_of_heap hb2 1
  obtain ⟨g, cap, rfl⟩ : ∃ g cap, v' = .slice (some ⟨g, 0, none⟩) (bs.length + 1) cap := by
    rcases hown'.2 with ⟨_, h0⟩ | ⟨g, cap, cur, hv, _⟩
    · omega
    · exact ⟨g, cap, hv⟩
  go_wp2
  go_ret
  refine ⟨rfl, .inr ?_, ?_, ((hk1.alloc _).grown hgrow (Lib.ownsRow_kind (hown.alloc _))).setCell ⟨b, 1, none⟩ rfl _⟩
  · exact Lib.BuilderAt.put (T := 89) (e := 5) hB hb2 (bs' := bs ++ [.int .u8 c]) (by simpa using hown') X.neB5
  · exact ((hb1.alloc (by have := hb1.size; omega) _).grown hgrow (by have := hb1.size; simp; omega) (fun k hk => (hown.lt k hk).1)).setCell (p := ⟨b, 1, none⟩) hB _
set_option maxHeartbeats 2000000 in
set_option maxRecDepth 100000 in
theorem text (B b : Nat) (bs : List Value) (s : ByteArray) (w : World) (h : Lib.IsBuilder 89 5 B b bs w) (hlen : bs.length + s.size ≤ 140737488355328) (hBw : B ≤ w.heap.size) :
    Calls Tryd.prog 51 #[.pointer (some ⟨b, 0, none⟩), .string s] w fun e w' => e = .returned (.tuple #[.int .i64 s.size, .nilIface]) ∧ (Lib.IsBuilder 89 5 B b (bs ++ Lib.strCells s) w' ∧ Below B w w' ∧ Lib.OthersKept 5 (some b) w w') := by
  obtain ⟨i0, hi, hz0, hz1, hz2⟩ := info_parts X.infoByte
  go_enter Tryd.func51, Tryd.ntmps51
  go_wp2_with (go_at_call 84; refine (check B b bs _ h).mono ?_)
  rintro e w1 ⟨rfl, h1, hb1, hk1⟩
  obtain ⟨hB, v, hbk, hown, hne⟩ := h1
  have c0 : w1.cell? ⟨b, 0, none⟩ = some (.pointer (some ⟨b, 0, none⟩)) := by rw [Lib.cell_of_heap hbk]; rfl
  have c1 : w1.cell? ⟨b, 1, none⟩ = some v := by rw [Lib.cell_of_heap hbk]; rfl
  have hlt : b < w1.heap.size := in_heap hbk
  go_wp2_with (at_builtin; refine Lib.wpList_append_own_string _ rfl _ _ 33 9 rfl B 5 i0 Tryd.underlying33 Tryd.underlying9 hi hz0 hz1 hz2 _ _ _ rfl hown s rfl ?c3 ?c4 ?c5 ?_)
  case c3 => unfold maxLen; omega
  case c4 => omega
  case c5 => have := hb1.size; omega
  intro v' w2 hown' hgrow _
  have hb2 : w2.heap[b]? = some (.cells #[.pointer (some ⟨b, 0, none⟩), v] 89 (0, 0)) := by
    rw [hgrow.block b hlt (fun e => hne e.symm)]
    exact hbk
  have d0 : w2.cell? ⟨b, 0, none⟩ = some (.pointer (some ⟨b, 0, none⟩)) := by rw [Lib.cell_of_heap hb2]; rfl
  have d1 : w2.cell? ⟨b, 1, none⟩ = some v := by rw [Lib.cell_of_heap hb2]; rfl
  have f1 : w2.frozen? ⟨b, 1, none⟩ = false := Lib.frozen_of_heap hb2 1
  obtain ⟨ao, n', cap, rfl⟩ : ∃ ao n' cap, v' = .slice ao n' cap := by
    rcases hown'.2 with ⟨hv, _⟩ | ⟨g, cap, cur, hv, _⟩
    · exact ⟨_, _, _, hv⟩
    · exact ⟨_, _, _, hv⟩
  go_wp2
  go_ret2
  refine ⟨rfl, .inr ?_, ?_, (hk1.grown hgrow (Lib.ownsRow_kind hown)).setCell ⟨b, 1, none⟩ rfl _⟩
  · exact Lib.BuilderAt.put (T := 89) (e := 5) hB hb2 (bs' := bs ++ Lib.strCells s) (by simpa [Lib.strCells_length] using hown') X.neB5
  · exact (hb1.grown hgrow (by have := hb1.size; omega) (fun k hk => (hown.lt k hk).1)).setCell (p := ⟨b, 1, none⟩) hB _
end Go.Proofs.YtbnonnogkgbpiaaDoor.Bld
end
section
namespace Go.Proofs.YtbnonnogkgbpiaaDoor.TreeText
open Go Go.RowKit Go.Proofs.YtbnonnogkgbpiaaDoorW.PrintWords Go.Proofs.YtbnonnogkgbpiaaDoorW.PrintLast Go.Proofs.YtbnonnogkgbpiaaDoorW.PrintMore Go.Proofs.YtbnonnogkgbpiaaDoor.PT Go.Proofs.YtbnonnogkgbpiaaDoor.TreePlain
set_option linter.unusedVariables false
set_option linter.unusedSimpArgs false
def spacedT (ks : List Int) : Nat → List UInt8
  | 0 => []
  | j + 1 => spacedT ks j ++ (32 :: Lib.itoa (rd ks j))
def kidsT (ks : List Int) : Nat → List UInt8
  | 0 => []
  | j + 1 => kidsT ks j ++ ((if 0 < j then [32] else []) ++ Lib.itoa (rd ks j))
def lineT (x : S49) : List UInt8 := (if x.f1.length = 0 then [61, 32] ++ Lib.itoa x.f0 else []) ++ (kidsT x.f1 x.f1.length ++ [10])
def headT (st n len rt : Int) : List UInt8 := [116, 114, 101, 101] ++ (spacedT [st, n, len, rt] 4 ++ [10])
def restT (l : List S49) : Nat → Nat → List UInt8 → Option (List UInt8)
  | 0, i, t => some t
  | d + 1, i, t => if 1048576 < (t ++ lineT (nd l i)).length then none else restT l d (i + 1) (t ++ lineT (nd l i))
def outT : Option (List UInt8) → List UInt8 × Int
  | none => ([], 3)
  | some t => (t, 0)
def printP (st n : Int) (l : List S49) (rt : Int) : List UInt8 × Int := outT (restT l l.length 0 (headT st n l.length rt))
theorem nDigits_le : ∀ (k u : Nat), u < 10 ^ (k + 1) → Lib.nDigits u ≤ k + 1
  | k, u, h => by
    by_cases c : u < 10
    · rw [Lib.nDigits_small c]
      omega
    · rw [Lib.nDigits_big c]
      cases k with
      | zero => simp at h; omega
      | succ k =>
        have := nDigits_le k (u / 10) (by rw [Nat.pow_succ] at h; omega)
        omega
theorem itoa_len (n : Int) (h0 : -9223372036854775808 ≤ n) (h1 : n ≤ 9223372036854775807) : (Lib.itoa n).length ≤ 20 := by
  unfold Lib.itoa
  split
  · rw [List.length_cons, Lib.decDigits_length]
    have := nDigits_le 18 n.natAbs (by omega)
    omega
  · rw [Lib.decDigits_length]
    have := nDigits_le 19 n.toNat (by omega)
    omega
theorem kidsT_len (ks : List Int) (h : ∀ q, q < ks.length → -9223372036854775808 ≤ rd ks q ∧ rd ks q ≤ 9223372036854775807) : ∀ j, j ≤ ks.length → (kidsT ks j).length ≤ 21 * j
  | 0, _ => Nat.le_refl _
  | j + 1, hj => by
    have ih := kidsT_len ks h j (by omega)
    have := itoa_len _ (h j (by omega)).1 (h j (by omega)).2
    simp only [kidsT, List.length_append]
    split <;> simp <;> omega
def Pow (w : World) : Prop := Lib.TabIs Tryd.prog w "internal/strconv.uint64pow10" .u64 Lib.pow10Tab
theorem Pow.on {w w' : World} (h : Pow w) (hb : Below w.heap.size w w') : Pow w' := by
  unfold Pow at h ⊢
  exact Lib.tabBelow_of_tabIs h _ hb
theorem itoa_any (n : Int) (h0 : -9223372036854775808 ≤ n) (h1 : n ≤ 9223372036854775807) (w : World) (hp : Pow w) :
    Calls Tryd.prog 52 #[.int .i64 n] w fun e w' => e = .returned (.string ⟨(Lib.itoa n).toArray⟩) ∧ Below w.heap.size w w' := by
  refine (Tryd.strconv_Itoa n h0 h1 _ hp).mono ?_
  rintro e w' ⟨rfl, k, os, rfl⟩
  exact ⟨rfl, Lib.below_grow _ _ (Nat.le_refl _) k os⟩
theorem cat_eq (a b : List UInt8) : (⟨a.toArray⟩ : ByteArray) ++ (⟨b.toArray⟩ : ByteArray) = ⟨(a ++ b).toArray⟩ := by
  apply ByteArray.ext
  simp [ByteArray.data_append]
theorem mono {B B' : Nat} {w w' : World} (h : Below B w w') (hb : B' ≤ B) : Below B' w w' := ⟨h.os, h.tape, h.output, h.size, fun k hk => h.block k (Nat.lt_of_lt_of_le hk hb)⟩
theorem isb_on {W W' : World} {b : Nat} {l : List Value} (h : Lib.IsBuilder 89 5 b b l W) (hb : Below W.heap.size W W') : Lib.IsBuilder 89 5 b b l W' := by
  have go : ∀ p, Lib.BuilderAt 89 5 b b p l W → Lib.BuilderAt 89 5 b b p l W' := by
    rintro p ⟨hB, v, hbk, ⟨h1, h2⟩, hne⟩
    refine ⟨hB, v, (hb.block b (Bld.in_heap hbk)).trans hbk, ⟨h1, ?_⟩, hne⟩
    rcases h2 with h | ⟨g, cap, cur, hv, hg, hh, hr⟩
    · exact .inl h
    · exact .inr ⟨g, cap, cur, hv, hg, (hb.block g (Bld.in_heap hh)).trans hh, hr⟩
  exact h.imp (go _) (go _)
def Kp (W W' : World) : Prop := ∀ (k : Nat) (cs : Array Value) (ty : TypeId) (fz : Nat × Nat), W.heap[k]? = some (.cells cs ty fz) → ty ≠ 5 → ty ≠ 89 → W'.heap[k]? = some (.cells cs ty fz)
theorem Kp.below {W W' : World} (hb : Below W.heap.size W W') : Kp W W' := fun k cs ty fz h _ _ => (hb.block k (blk_lt h)).trans h
theorem Kp.trans {W W1 W2 : World} (h : Kp W W1) (g : Kp W1 W2) : Kp W W2 := fun k cs ty fz hk a b => g k cs ty fz (h k cs ty fz hk a b) a b
theorem isb_block {W : World} {b : Nat} {l : List Value} (h : Lib.IsBuilder 89 5 b b l W) : ∃ cs, W.heap[b]? = some (.cells cs 89 (0, 0)) := by
  rcases h with ⟨_, v, hb, _⟩ | ⟨_, v, hb, _⟩
  · exact ⟨_, hb⟩
  · exact ⟨_, hb⟩
theorem Kp.others {W W' : World} {b : Nat} {l : List Value} (h : Lib.IsBuilder 89 5 b b l W) (hk : Lib.OthersKept 5 (some b) W W') : Kp W W' := by
  obtain ⟨cb, hb⟩ := isb_block h
  intro k cs ty fz hx h1 h2
  refine hk k _ hx ?_ ?_
  · intro e
    injection e with e
    subst e
    rw [hx] at hb
    injection hb with hb
    injection hb with _ hb
    exact h2 hb
  · intro c fz' e
    injection e with _ e
    exact h1 e
structure TP (w00 : World) (b : Nat) (l : List UInt8) (W : World) : Prop where
  bld : Lib.IsBuilder 89 5 b b (Lib.byteCells l) W
  le : w00.heap.size ≤ b
  be : Below w00.heap.size w00 W
section
variable {w00 W W' : World} {b : Nat} {l : List UInt8}
theorem TP.blt (h : TP w00 b l W) : b < W.heap.size := by rcases h.bld with x | x <;> exact x.lt
theorem TP.on (h : TP w00 b l W) (hb : Below W.heap.size W W') : TP w00 b l W' := ⟨isb_on h.bld hb, h.le, h.be.trans (mono hb h.be.size)⟩
theorem TP.text (h : TP w00 b l W) (d : List UInt8) (hl : l.length + d.length ≤ 1000000000) :
    Calls Tryd.prog 51 #[.pointer (some ⟨b, 0, none⟩), .string ⟨d.toArray⟩] W fun e W' => (∃ v, e = .returned (.tuple #[.int .i64 v, .nilIface])) ∧ TP w00 b (l ++ d) W' ∧ Kp W W' := by
  have hs : (⟨d.toArray⟩ : ByteArray).size = d.length := by simp [← ByteArray.size_data]
  refine (Bld.text b b _ _ W h.bld (by rw [Lib.byteCells_length, hs]; omega) (Nat.le_of_lt h.blt)).mono ?_
  rintro e W' ⟨rfl, h1, h2, h3⟩
  exact ⟨⟨_, rfl⟩, ⟨by rw [Lib.byteCells_append]; simpa [Lib.strCells, Lib.byteCells] using h1, h.le, h.be.trans (mono h2 h.le)⟩, Kp.others h.bld h3⟩
theorem TP.text2 (h : TP w00 b l W) (s : ByteArray) (d : List UInt8) (hs : s = ⟨d.toArray⟩) (hl : l.length + d.length ≤ 1000000000) :
    Calls Tryd.prog 51 #[.pointer (some ⟨b, 0, none⟩), .string s] W fun e W' => (∃ v, e = .returned (.tuple #[.int .i64 v, .nilIface])) ∧ TP w00 b (l ++ d) W' ∧ Kp W W' := hs ▸ h.text d hl
theorem TP.byte (h : TP w00 b l W) (c : UInt8) (x : Int) (hx : x = (c.toNat : Int)) (hl : l.length ≤ 1000000000) :
    Calls Tryd.prog 53 #[.pointer (some ⟨b, 0, none⟩), .int .u8 x] W fun e W' => e = .returned .nilIface ∧ TP w00 b (l ++ [c]) W' ∧ Kp W W' := by
  subst hx
  refine (Bld.byte b b _ _ W h.bld (by rw [Lib.byteCells_length]; omega) (Nat.le_of_lt h.blt)).mono ?_
  rintro e W' ⟨rfl, h1, h2, h3⟩
  exact ⟨rfl, ⟨by rw [Lib.byteCells_append]; exact h1, h.le, h.be.trans (mono h2 h.le)⟩, Kp.others h.bld h3⟩
theorem TP.num (h : TP w00 b l W) (n : Int) (h0 : -9223372036854775808 ≤ n) (h1 : n ≤ 9223372036854775807) (hp : Pow w00) :
    Calls Tryd.prog 52 #[.int .i64 n] W fun e W' => e = .returned (.string ⟨(Lib.itoa n).toArray⟩) ∧ TP w00 b l W' ∧ Kp W W' := by
  refine (itoa_any n h0 h1 W (hp.on h.be)).mono ?_
  rintro e W' ⟨rfl, hb⟩
  exact ⟨rfl, h.on hb, Kp.below hb⟩
theorem TP.len (h : TP w00 b l W) : Calls Tryd.prog 54 #[.pointer (some ⟨b, 0, none⟩)] W fun e W' => e = .returned (.int .i64 (l.length : Int)) ∧ W' = W := by
  have := Tryd.Builder_Len b b _ W h.bld
  rw [Lib.byteCells_length] at this
  exact this
theorem TP.string (h : TP w00 b l W) : Calls Tryd.prog 55 #[.pointer (some ⟨b, 0, none⟩)] W fun e W' => e = .returned (.string ⟨l.toArray⟩) ∧ Below w00.heap.size w00 W' := by
  refine (Tryd.Builder_String_any b b l W h.bld (Nat.le_of_lt h.blt)).mono ?_
  rintro e W' ⟨rfl, hb⟩
  exact ⟨rfl, h.be.trans (mono hb h.le)⟩
theorem TP.start {W1 : World} (hB : Below w00.heap.size w00 W) (hg : b = W.heap.size) (hbb : W1.heap[b]? = some (.cells #[.pointer none, .slice none 0 0] 89 (0, 0))) (hb : Below W.heap.size W W1) : TP w00 b [] W1 :=
  ⟨.inl ⟨Nat.le_refl _, .slice none 0 0, hbb, World.ownsRow_nil _ _ _ _, by simp [Value.ownBlock]⟩, hg ▸ hB.size, hB.trans (mono hb hB.size)⟩
end
def Good (st : Int) (l : List S49) : Prop := ∀ j, j < l.length → ((nd l j).f1.length = 0 ∧ (nd l j).f0 < st) ∨ ((nd l j).f0 = 0 ∧ ((nd l j).f1.length : Int) = st ∧ ∀ q, q < (nd l j).f1.length → 0 ≤ rd (nd l j).f1 q ∧ rd (nd l j).f1 q < j)
theorem chkTo_good (st : Int) (l : List S49) : ∀ i lv, chkTo st l i = some lv → ∀ j, j < i → ((nd l j).f1.length = 0 ∧ (nd l j).f0 < st) ∨ ((nd l j).f0 = 0 ∧ ((nd l j).f1.length : Int) = st ∧ ∀ q, q < (nd l j).f1.length → 0 ≤ rd (nd l j).f1 q ∧ rd (nd l j).f1 q < j)
  | 0, lv, h => fun j hj => by omega
  | i + 1, lv, h => by
    unfold chkTo at h
    rcases hc : chkTo st l i with _ | lv0
    · rw [hc] at h
      cases h
    · rw [hc] at h
      have h0 := chkTo_good st l i lv0 hc
      simp only [Option.bind_some] at h
      intro j hj
      by_cases e : j < i
      · exact h0 j e
      · have : j = i := by omega
        subst this
        split at h
        · rename_i c
          split at h
          · cases h
          · exact .inl ⟨c, by omega⟩
        · rename_i c
          split at h
          · rename_i c2
            exact .inr ⟨c2.1, c2.2.1, fun q hq => ⟨(c2.2.2 q (Nat.zero_le _) hq).1, (c2.2.2 q (Nat.zero_le _) hq).2.1⟩⟩
          · cases h
structure Fine (st n : Int) (l : List S49) (rt : Int) : Prop where
  hst : 1 ≤ st ∧ st ≤ 256
  hn : 0 ≤ n ∧ n ≤ 16
  hl : 1 ≤ l.length ∧ l.length ≤ 65536
  hrt : 0 ≤ rt ∧ rt < l.length
  good : Good st l
theorem chk_zero {st n rt : Int} {l : List S49} (h : chk st n l rt = 0) : Fine st n l rt := by
  unfold chk at h
  split at h
  · cases h
  · rename_i c
    unfold chkEnd at h
    rcases hc : chkTo st l l.length with _ | lv
    · rw [hc] at h
      cases h
    · exact ⟨by omega, by omega, by omega, by omega, chkTo_good st l _ lv hc⟩
theorem chk_cases (st n rt : Int) (l : List S49) : chk st n l rt = 0 ∨ chk st n l rt = 110 := by
  unfold chk
  split
  · exact .inr rfl
  · unfold chkEnd
    split
    · exact .inr rfl
    · split
      · exact .inl rfl
      · exact .inr rfl
end Go.Proofs.YtbnonnogkgbpiaaDoor.TreeText
end
section
namespace Go.Proofs.YtbnonnogkgbpiaaDoor.LentT
open Go Go.RowKit Go.Proofs.YtbnonnogkgbpiaaDoorW.PrintWords Go.Proofs.YtbnonnogkgbpiaaDoorW.PrintLast Go.Proofs.YtbnonnogkgbpiaaDoorW.PrintMore Go.Proofs.YtbnonnogkgbpiaaDoor.PT Go.Proofs.YtbnonnogkgbpiaaDoor.TreePlain Go.Proofs.YtbnonnogkgbpiaaDoor.TreeText
set_option linter.unusedVariables false
set_option linter.unusedSimpArgs false
def lcells (l : List S49) (K : List (Nat × Nat)) : Nat → List Value
  | 0 => []
  | i + 1 => lcells l K i ++ [.int .u8 (nd l i).f0, .slice (some ⟨(K.getD i (0, 0)).1, 0, none⟩) (nd l i).f1.length (K.getD i (0, 0)).2]
def marks2 : Nat → List Value
  | 0 => []
  | m + 1 => marks2 m ++ [.int .u8 77, .slice none 0 0]
theorem lcells_len (l : List S49) (K : List (Nat × Nat)) : ∀ i, (lcells l K i).length = 2 * i
  | 0 => rfl
  | i + 1 => by
    show (_ ++ [_, _]).length = _
    rw [List.length_append, lcells_len l K i]
    rfl
theorem lcells_congr (l : List S49) (K K' : List (Nat × Nat)) : ∀ i, (∀ j, j < i → K.getD j (0, 0) = K'.getD j (0, 0)) → lcells l K i = lcells l K' i
  | 0, _ => rfl
  | i + 1, h => by
    show _ ++ [_, _] = _ ++ [_, _]
    rw [lcells_congr l K K' i (fun j hj => h j (by omega)), h i (by omega)]
theorem lcells_at (l : List S49) (K : List (Nat × Nat)) : ∀ (n j : Nat) (R : List Value), j < n → (lcells l K n ++ R)[2 * j]? = some (.int .u8 (nd l j).f0) ∧ (lcells l K n ++ R)[2 * j + 1]? = some (.slice (some ⟨(K.getD j (0, 0)).1, 0, none⟩) (nd l j).f1.length (K.getD j (0, 0)).2)
  | 0, j, R, h => by omega
  | n + 1, j, R, h => by
    have hl := lcells_len l K n
    show ((lcells l K n ++ [_, _]) ++ R)[2 * j]? = _ ∧ ((lcells l K n ++ [_, _]) ++ R)[2 * j + 1]? = _
    rw [List.append_assoc]
    by_cases e : j < n
    · exact lcells_at l K n j _ e
    · have : j = n := by omega
      subst this
      constructor
      · rw [List.getElem?_append_right (by omega), hl, Nat.sub_self]
        rfl
      · rw [List.getElem?_append_right (by omega), hl, show 2 * j + 1 - 2 * j = 1 by omega]
        rfl
theorem addr_add (g n : Nat) : (⟨g, 0, none⟩ : Addr).add n = ⟨g, n, none⟩ := by
  unfold Addr.add
  split
  · rename_i h
    rw [h]
  · simp
structure LentAt (B : Nat) (W : World) (nv : Value) (l : List S49) (i m : Nat) (K : List (Nat × Nat)) : Prop where
  row : W.ownsRow B 49 2 nv (i + m) (lcells l K i ++ marks2 m)
  len : K.length = i
  kid : ∀ (j g c : Nat), K[j]? = some (g, c) → W.ownsRow B 3 1 (.slice (some ⟨g, 0, none⟩) ((nd l j).f1.length + 2) c) ((nd l j).f1.length + 2) (nums .i64 ((nd l j).f1 ++ [-7, -8]))
  ap : ∀ (i j : Nat) (a b : Nat × Nat), i ≠ j → K[i]? = some a → K[j]? = some b → a.1 ≠ b.1
section
variable {B : Nat} {W W' : World} {nv : Value} {l : List S49} {i m : Nat} {K : List (Nat × Nat)}
theorem LentAt.move (h : LentAt B W nv l i m K) (h1 : ∀ k, nv.ownBlock = some k → W'.heap[k]? = W.heap[k]?) (h2 : ∀ p ∈ K, W'.heap[p.1]? = W.heap[p.1]?) : LentAt B W' nv l i m K :=
  ⟨own_move h.row h1, h.len, fun j g c hj => own_move (h.kid j g c hj) (fun k hk => by
    obtain rfl : g = k := by simpa [Value.ownBlock] using hk
    exact h2 (g, c) (List.mem_of_getElem? hj)), h.ap⟩
theorem LentAt.on (h : LentAt B W nv l i m K) (hb : Below W.heap.size W W') : LentAt B W' nv l i m K :=
  h.move (fun k hk => hb.block k (own_lt h.row k hk)) (fun p hp => by
    obtain ⟨j, hj, e⟩ := List.mem_iff_getElem.1 hp
    exact hb.block p.1 (own_lt (h.kid j p.1 p.2 (by rw [List.getElem?_eq_getElem hj, e])) p.1 rfl))
theorem LentAt.lower {B' : Nat} (h : LentAt B W nv l i m K) (hb : B' ≤ B) : LentAt B' W nv l i m K :=
  ⟨own_weaken h.row hb, h.len, fun j g c hj => own_weaken (h.kid j g c hj) hb, h.ap⟩
theorem LentAt.start (B : Nat) (W : World) (l : List S49) : LentAt B W (.slice none 0 0) l 0 0 [] :=
  ⟨own_nil _ _ _ _, rfl, fun j g c h => by simp at h, fun i j a b _ h => by simp at h⟩
theorem LentAt.snoc {v1 : Value} {g c : Nat} (h : LentAt B W nv l i 0 K) (hg : W.grownBy W' nv.ownBlock) (ho : W'.ownsRow B 49 2 v1 (i + 1) (lcells l K i ++ [.int .u8 (nd l i).f0, .slice (some ⟨g, 0, none⟩) (nd l i).f1.length c]))
    (hv : W.ownsRow B 3 1 (.slice (some ⟨g, 0, none⟩) ((nd l i).f1.length + 2) c) ((nd l i).f1.length + 2) (nums .i64 ((nd l i).f1 ++ [-7, -8]))) (hk : ∀ p ∈ K, p.1 ≠ g) : LentAt B W' v1 l (i + 1) 0 (K ++ [(g, c)]) := by
  have hlen := h.len
  have other : ∀ {v : Value} {n : Nat} {xs : List Value}, W.ownsRow B 3 1 v n xs → W'.ownsRow B 3 1 v n xs := fun {v n xs} h2 => own_move h2 (fun k hk => hg.block k (own_lt h2 k hk) (fun e => by
    obtain ⟨cs, hc⟩ := own_typed h2 k hk
    obtain ⟨cs', hc'⟩ := own_typed h.row k e.symm
    rw [hc] at hc'
    injection hc' with hc'
    injection hc' with _ hc'
    exact absurd hc' (by decide)))
  have new : (K ++ [(g, c)]).getD i (0, 0) = (g, c) := by rw [List.getD_eq_getElem?_getD, ← hlen, List.getElem?_append_right (Nat.le_refl _), Nat.sub_self]; rfl
  refine ⟨?_, by simp [hlen], ?_, ?_⟩
  · show W'.ownsRow B _ 2 v1 (i + 1 + 0) ((lcells l (K ++ [(g, c)]) i ++ [_, _]) ++ [])
    rw [List.append_nil, new, lcells_congr l (K ++ [(g, c)]) K i (fun j hj => by rw [List.getD_eq_getElem?_getD, List.getD_eq_getElem?_getD, List.getElem?_append_left (by omega)])]
    exact ho
  · intro j g' c' hj
    by_cases e : j < i
    · rw [List.getElem?_append_left (by omega)] at hj
      exact other (h.kid j g' c' hj)
    · rw [List.getElem?_append_right (by omega)] at hj
      have e0 : j = i := by
        have := (List.getElem?_eq_some_iff.1 hj).1
        simp at this
        omega
      subst e0
      rw [hlen, Nat.sub_self] at hj
      obtain ⟨rfl, rfl⟩ : g = g' ∧ c = c' := by simpa using hj
      exact other hv
  · intro a b p q hne hp hq
    have hK : ∀ (j : Nat) (r : Nat × Nat), (K ++ [(g, c)])[j]? = some r → (j < i ∧ r ∈ K) ∨ (j = i ∧ r = (g, c)) := by
      intro j r hj
      by_cases e : j < i
      · rw [List.getElem?_append_left (by omega)] at hj
        exact .inl ⟨e, List.mem_of_getElem? hj⟩
      · rw [List.getElem?_append_right (by omega)] at hj
        have e0 : j = i := by
          have := (List.getElem?_eq_some_iff.1 hj).1
          simp at this
          omega
        subst e0
        rw [hlen, Nat.sub_self] at hj
        exact .inr ⟨rfl, by simpa using hj.symm⟩
    rcases hK a p hp with ⟨ha, hpm⟩ | ⟨rfl, rfl⟩
    · rcases hK b q hq with ⟨hb, hqm⟩ | ⟨rfl, rfl⟩
      · rw [List.getElem?_append_left (by omega)] at hp hq
        exact h.ap a b p q hne hp hq
      · exact hk p hpm
    · rcases hK b q hq with ⟨hb, hqm⟩ | ⟨rfl, rfl⟩
      · exact (hk q hqm).symm
      · exact absurd rfl hne
theorem LentAt.set (h : LentAt B W nv l i m K) {q j : Nat} {v : Value} {cs : Array Value} {ty : TypeId} {f : Nat × Nat} (hq : W.heap[q]? = some (.cells cs ty f)) (h1 : ty ≠ 49) (h2 : ty ≠ 3) : LentAt B (W.setCell ⟨q, j, none⟩ v) nv l i m K := by
  have far : ∀ (k : Nat) (cs' : Array Value) (t' : TypeId) (f' : Nat × Nat), W.heap[k]? = some (.cells cs' t' f') → ty ≠ t' → (W.setCell ⟨q, j, none⟩ v).heap[k]? = W.heap[k]? := by
    intro k cs' t' f' hk hne
    exact Below.heap_setCell _ ⟨q, j, none⟩ _ _ (fun e => by
      rw [show k = q from e, hq] at hk
      injection hk with hk
      injection hk with _ hk
      exact hne hk)
  refine h.move (fun k hk => ?_) (fun p hp => ?_)
  · obtain ⟨cs', hc⟩ := own_typed h.row k hk
    exact far k _ _ _ hc h1
  · obtain ⟨j', hj, e⟩ := List.mem_iff_getElem.1 hp
    obtain ⟨cs', hc⟩ := own_typed (h.kid j' p.1 p.2 (by rw [List.getElem?_eq_getElem hj, e])) p.1 rfl
    exact far p.1 _ _ _ hc h2
theorem LentAt.reads {gn cn : Nat} (h : LentAt B W (.slice (some ⟨gn, 0, none⟩) (l.length + m) cn) l l.length m K) (hm : l.length ≤ 9223372036854775807) : Kd.C k49 W (some ⟨gn, 0, none⟩) l.length l := by
  refine ⟨rfl, hm, fun _ => ⟨_, rfl, fun j p hj => ?_⟩⟩
  have hjl : j < l.length := (List.getElem?_eq_some_iff.1 hj).1
  have hp : nd l j = p := by unfold nd; rw [List.getD_eq_getElem?_getD, hj]; rfl
  have hjK : j < K.length := by rw [h.len]; exact hjl
  have hk : K[j]? = some K[j] := List.getElem?_eq_getElem hjK
  have hkd : K.getD j (0, 0) = K[j] := by rw [List.getD_eq_getElem?_getD, hk]; rfl
  have ho := h.kid j _ _ hk
  have hr := own_reads' ho
  have hr2 := hr.take_ (nd l j).f1.length (by omega)
  rw [List.take_left'  rfl] at hr2
  have hcap : (nd l j).f1.length + 2 ≤ K[j].2 := own_cap ho
  obtain ⟨q1, q2⟩ := lcells_at l K l.length j (marks2 m) hjl
  rw [hkd] at q2
  have c1 := h.row.cellAt (2 * j) (by omega)
  have c2 := h.row.cellAt (2 * j + 1) (by omega)
  rw [q1] at c1
  rw [q2] at c2
  rw [hp] at c1 c2 hr2 hcap
  refine ⟨[.int .u8 p.f0, .slice (some ⟨K[j].1, 0, none⟩) p.f1.length K[j].2], rfl, k49_mk W p (by omega) (Kd.C_of_reads hr2), fun q u hu => ?_⟩
  match q, hu with
  | 0, hu =>
    obtain rfl := Option.some.inj hu
    have e : (⟨gn, 0, none⟩ : Addr).add (j * k49.sz + 0) = ⟨gn, 2 * j, none⟩ := by
      have : j * k49.sz + 0 = 2 * j := by show j * 2 + 0 = _; omega
      rw [this]
      exact addr_add gn _
    rw [e]
    exact c1
  | 1, hu =>
    obtain rfl := Option.some.inj hu
    have e : (⟨gn, 0, none⟩ : Addr).add (j * k49.sz + 1) = ⟨gn, 2 * j + 1, none⟩ := by
      have : j * k49.sz + 1 = 2 * j + 1 := by show j * 2 + 1 = _; omega
      rw [this]
      exact addr_add gn _
    rw [e]
    exact c2
end
end Go.Proofs.YtbnonnogkgbpiaaDoor.LentT
end
section
namespace Go.Proofs.YtbnonnogkgbpiaaDoor.NdT
open Go Go.RowKit Go.Proofs.YtbnonnogkgbpiaaDoorW.PrintWords Go.Proofs.YtbnonnogkgbpiaaDoorW.PrintLast Go.Proofs.YtbnonnogkgbpiaaDoorW.PrintMore Go.Proofs.YtbnonnogkgbpiaaDoor.PT Go.Proofs.YtbnonnogkgbpiaaDoor.TreePlain Go.Proofs.YtbnonnogkgbpiaaDoor.TreeText
set_option linter.unusedVariables false
set_option linter.unusedSimpArgs false
def bcells (l : List S49) (K : List Value) : Nat → List Value
  | 0 => []
  | i + 1 => bcells l K i ++ [.int .u8 (nd l i).f0, K.getD i (.slice none 0 0)]
theorem bcells_congr (l l' : List S49) (K K' : List Value) : ∀ i, (∀ j, j < i → nd l j = nd l' j ∧ K.getD j (.slice none 0 0) = K'.getD j (.slice none 0 0)) → bcells l K i = bcells l' K' i
  | 0, _ => rfl
  | i + 1, h => by
    show _ ++ [_, _] = _ ++ [_, _]
    rw [bcells_congr l l' K K' i (fun j hj => h j (by omega)), (h i (by omega)).1, (h i (by omega)).2]
structure NdAt (B : Nat) (W : World) (nv : Value) (l : List S49) (K : List Value) : Prop where
  row : W.ownsRow B 49 2 nv l.length (bcells l K l.length)
  len : K.length = l.length
  kid : ∀ (j : Nat) v, K[j]? = some v → W.ownsRow B 3 1 v (nd l j).f1.length (nums .i64 (nd l j).f1)
  ap : ∀ (i j : Nat) u v, i ≠ j → K[i]? = some u → K[j]? = some v → u.ownBlock = none ∨ u.ownBlock ≠ v.ownBlock
section
variable {B : Nat} {W W' : World} {nv : Value} {l : List S49} {K : List Value}
theorem NdAt.move (h : NdAt B W nv l K) (h1 : ∀ k, nv.ownBlock = some k → W'.heap[k]? = W.heap[k]?) (h2 : ∀ v ∈ K, ∀ k, v.ownBlock = some k → W'.heap[k]? = W.heap[k]?) : NdAt B W' nv l K :=
  ⟨own_move h.row h1, h.len, fun j v hj => own_move (h.kid j v hj) (h2 v (List.mem_of_getElem? hj)), h.ap⟩
theorem NdAt.on (h : NdAt B W nv l K) (hb : Below W.heap.size W W') : NdAt B W' nv l K :=
  h.move (fun k hk => hb.block k (own_lt h.row k hk)) (fun v hv k hk => by
    obtain ⟨j, hj, rfl⟩ := List.mem_iff_getElem.1 hv
    exact hb.block k (own_lt (h.kid j _ (List.getElem?_eq_getElem hj)) k hk))
theorem NdAt.lower {B' : Nat} (h : NdAt B W nv l K) (hb : B' ≤ B) : NdAt B' W nv l K :=
  ⟨own_weaken h.row hb, h.len, fun j v hj => own_weaken (h.kid j v hj) hb, h.ap⟩
theorem NdAt.start (B : Nat) (W : World) : NdAt B W (.slice none 0 0) [] [] :=
  ⟨own_nil _ _ _ _, rfl, fun j v h => by simp at h, fun i j a b _ h => by simp at h⟩
theorem NdAt.lt (h : NdAt B W nv l K) : ∀ v ∈ K, ∀ k, v.ownBlock = some k → k < W.heap.size := fun v hv k hk => by
  obtain ⟨j, hj, rfl⟩ := List.mem_iff_getElem.1 hv
  exact own_lt (h.kid j _ (List.getElem?_eq_getElem hj)) k hk
theorem NdAt.ge (h : NdAt B W nv l K) : ∀ v ∈ K, ∀ k, v.ownBlock = some k → B ≤ k := fun v hv k hk => by
  obtain ⟨j, hj, rfl⟩ := List.mem_iff_getElem.1 hv
  exact own_base (h.kid j _ (List.getElem?_eq_getElem hj)) k hk
theorem NdAt.typ (h : NdAt B W nv l K) : ∀ v ∈ K, ∀ k, v.ownBlock = some k → ∃ cs, W.heap[k]? = some (.cells cs 3 (0, 0)) := fun v hv k hk => by
  obtain ⟨j, hj, rfl⟩ := List.mem_iff_getElem.1 hv
  exact own_typed (h.kid j _ (List.getElem?_eq_getElem hj)) k hk
theorem NdAt.grown {q : Nat} {cs : Array Value} {ty : TypeId} {f : Nat × Nat} (h : NdAt B W nv l K) (hq : W.heap[q]? = some (.cells cs ty f)) (h1 : nv.ownBlock ≠ some q) (h2 : ty ≠ 3) (hg : W.grownBy W' (some q)) : NdAt B W' nv l K :=
  h.move (fun k hk => hg.block k (own_lt h.row k hk) (fun e => h1 (hk.trans e))) (fun v hv k hk => hg.block k (h.lt v hv k hk) (fun e => by
    obtain ⟨cs', hc⟩ := h.typ v hv k hk
    obtain rfl : k = q := by simpa using e
    rw [hc] at hq
    injection hq with hq
    injection hq with _ hq
    exact h2 hq.symm))
theorem NdAt.far (h : NdAt B W nv l K) {q : Nat} {cs : Array Value} {ty : TypeId} {f : Nat × Nat} (hq : W.heap[q]? = some (.cells cs ty f)) (h1 : ty ≠ 49) : nv.ownBlock ≠ some q := fun e => by
  obtain ⟨cs', hc⟩ := own_typed h.row q e
  rw [hc] at hq
  injection hq with hq
  injection hq with _ hq
  exact h1 hq.symm
theorem NdAt.set (h : NdAt B W nv l K) {q j : Nat} {v : Value} {cs : Array Value} {ty : TypeId} {f : Nat × Nat} (hq : W.heap[q]? = some (.cells cs ty f)) (h1 : nv.ownBlock ≠ some q) (h2 : ty ≠ 3) : NdAt B (W.setCell ⟨q, j, none⟩ v) nv l K := by
  refine h.move (fun k hk => ?_) (fun u hu k hk => ?_)
  · exact Below.heap_setCell _ ⟨q, j, none⟩ _ _ (fun e => h1 (by rw [hk]; exact congrArg some e))
  · obtain ⟨cs', hc⟩ := h.typ u hu k hk
    exact Below.heap_setCell _ ⟨q, j, none⟩ _ _ (fun e => by
      rw [show k = q from e, hq] at hc
      injection hc with hc
      injection hc with _ hc
      exact h2 hc)
theorem nd_old (l : List S49) (x : S49) (j : Nat) (h : j < l.length) : nd (l ++ [x]) j = nd l j := by
  unfold nd
  rw [List.getD_eq_getElem?_getD, List.getD_eq_getElem?_getD, List.getElem?_append_left h]
theorem nd_new (l : List S49) (x : S49) : nd (l ++ [x]) l.length = x := by
  unfold nd
  rw [List.getD_eq_getElem?_getD, List.getElem?_append_right (Nat.le_refl _), Nat.sub_self]
  rfl
theorem getD_oldV (K : List Value) (v d : Value) (j : Nat) (h : j < K.length) : (K ++ [v]).getD j d = K.getD j d := by
  rw [List.getD_eq_getElem?_getD, List.getD_eq_getElem?_getD, List.getElem?_append_left h]
theorem getD_newV (K : List Value) (v d : Value) : (K ++ [v]).getD K.length d = v := by
  rw [List.getD_eq_getElem?_getD, List.getElem?_append_right (Nat.le_refl _), Nat.sub_self]
  rfl
theorem NdAt.snoc {v1 v : Value} {x : S49} (h : NdAt B W nv l K) (hg : W.grownBy W' nv.ownBlock) (ho : W'.ownsRow B 49 2 v1 (l.length + 1) (bcells l K l.length ++ [.int .u8 x.f0, v]))
    (hv : W.ownsRow B 3 1 v x.f1.length (nums .i64 x.f1)) (hk : ∀ u ∈ K, u.ownBlock = none ∨ u.ownBlock ≠ v.ownBlock) : NdAt B W' v1 (l ++ [x]) (K ++ [v]) := by
  have hlen := h.len
  have other : ∀ {u : Value} {n : Nat} {xs : List Value}, W.ownsRow B 3 1 u n xs → W'.ownsRow B 3 1 u n xs := fun {u n xs} h2 => own_move h2 (fun k hk => hg.block k (own_lt h2 k hk) (fun e => by
    obtain ⟨cs, hc⟩ := own_typed h2 k hk
    obtain ⟨cs', hc'⟩ := own_typed h.row k e.symm
    rw [hc] at hc'
    injection hc' with hc'
    injection hc' with _ hc'
    exact absurd hc' (by decide)))
  refine ⟨?_, by simp [hlen], ?_, ?_⟩
  · rw [List.length_append, List.length_singleton]
    show W'.ownsRow B _ 2 v1 (l.length + 1) (bcells (l ++ [x]) (K ++ [v]) l.length ++ [_, _])
    rw [nd_new, ← hlen, getD_newV, hlen, bcells_congr (l ++ [x]) l (K ++ [v]) K l.length (fun j hj => ⟨nd_old l x j hj, getD_oldV K v _ j (by omega)⟩)]
    exact ho
  · intro j u hj
    by_cases e : j < l.length
    · rw [List.getElem?_append_left (by omega)] at hj
      rw [nd_old l x j e]
      exact other (h.kid j u hj)
    · rw [List.getElem?_append_right (by omega)] at hj
      have e0 : j = l.length := by
        have := (List.getElem?_eq_some_iff.1 hj).1
        simp at this
        omega
      subst e0
      rw [hlen, Nat.sub_self] at hj
      obtain rfl : v = u := by simpa using hj
      rw [nd_new]
      exact other hv
  · intro a b p q hne hp hq
    have hK : ∀ (j : Nat) (r : Value), (K ++ [v])[j]? = some r → (j < l.length ∧ r ∈ K ∧ K[j]? = some r) ∨ (j = l.length ∧ r = v) := by
      intro j r hj
      by_cases e : j < l.length
      · rw [List.getElem?_append_left (by omega)] at hj
        exact .inl ⟨e, List.mem_of_getElem? hj, hj⟩
      · rw [List.getElem?_append_right (by omega)] at hj
        have e0 : j = l.length := by
          have := (List.getElem?_eq_some_iff.1 hj).1
          simp at this
          omega
        subst e0
        rw [hlen, Nat.sub_self] at hj
        exact .inr ⟨rfl, by simpa using hj.symm⟩
    rcases hK a p hp with ⟨ha, hpm, hp'⟩ | ⟨rfl, rfl⟩
    · rcases hK b q hq with ⟨hb, hqm, hq'⟩ | ⟨rfl, rfl⟩
      · exact h.ap a b p q hne hp' hq'
      · exact hk p hpm
    · rcases hK b q hq with ⟨hb, hqm, hq'⟩ | ⟨rfl, rfl⟩
      · rcases hk q hqm with h0 | h0
        · by_cases hp0 : p.ownBlock = none
          · exact .inl hp0
          · exact .inr (by rw [h0]; exact hp0)
        · exact .inr (fun e => h0 e.symm)
      · exact absurd rfl hne
theorem NdAt.rows (h : NdAt B W nv l K) : Kd.R k49 49 W B (fun k => B ≤ k) nv l := by
  have step : ∀ i, i ≤ l.length → Reps (k49.M W B (fun k => B ≤ k ∧ some k ≠ nv.ownBlock)) 2 (l.take i) (bcells l K i) := by
    intro i
    induction i with
    | zero => exact fun _ => Reps.none _ _
    | succ i ih =>
      intro hi
      have hlt : i < l.length := hi
      have hk : i < K.length := by rw [h.len]; exact hlt
      have hki : K[i]? = some K[i] := List.getElem?_eq_getElem hk
      have ho := h.kid i _ hki
      have hne := own_type_ne ho h.row (by decide)
      rw [List.take_succ_eq_append_getElem hlt]
      refine Reps.snoc (ih (by omega)) ?_ rfl
      have e1 : nd l i = l[i] := by unfold nd; rw [List.getD_eq_getElem?_getD, List.getElem?_eq_getElem hlt]; rfl
      have e2 : K.getD i (.slice none 0 0) = K[i] := by rw [List.getD_eq_getElem?_getD, hki]; rfl
      rw [e1, e2]
      rw [e1] at ho
      exact k49_mkM W B _ l[i] (Kd.R_of_own ho (fun k hk => ⟨own_base ho k hk, fun e => by
        rcases hne with h0 | h0
        · rw [h0] at hk; cases hk
        · exact h0 (hk.trans e)⟩))
  have hs := step l.length (Nat.le_refl _)
  rw [List.take_length] at hs
  exact ⟨fun k hk => own_base h.row k hk, _, h.row, hs⟩
theorem NdAt.reads {A : Option Addr} {n c : Nat} (h : NdAt B W (.slice A n c) l K) : n = l.length ∧ Kd.C k49 W A l.length l ∧ l.length ≤ c := by
  obtain ⟨e1, e2, e3⟩ := Kd.R_reads' h.rows
  exact ⟨e1, e3, e1 ▸ e2⟩
end
end Go.Proofs.YtbnonnogkgbpiaaDoor.NdT
end
