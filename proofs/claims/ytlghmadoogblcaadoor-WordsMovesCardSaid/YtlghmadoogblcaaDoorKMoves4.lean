/- What the row of this claim leans on, part 4. -/
import Derived.Test.YtlghmadoogblcaaDoorKMoves3
section
namespace Go.Proofs.YtlghmadoogblcaaDoor.PB
open Go.RowKit Go.Proofs.YtlghmadoogblcaaDoorW.PrintWords Go.Proofs.YtlghmadoogblcaaDoorW.PrintLast Go.Proofs.YtlghmadoogblcaaDoorW.PrintMore
attribute [local go_sem] max2_int min2_int max_two min_two max_three min_three max_four min_four   -- for this text's walks alone
set_option linter.unusedVariables false
set_option linter.unusedSimpArgs false
def vivariumref02_Up.f (k : Nat) (a0_0 : Int) (l0_1 : List Int) (a1 : Bool) : Option (Int × List Int × Bool × Int) := (vivariumref02_Valid.f k a0_0 l0_1).bind fun t121 => (if t121 = true then ((some (([a1] : List Bool) : List Bool)).bind fun y122 => ((vivariumref02_Bits.f k a0_0 l0_1).bind fun t125 => (if y122.length + t125.length < 140737488355328 then ((some (y122 ++ t125 : List Bool)).bind fun y128 => (if 0 ≤ a0_0 then (if a0_0 ≤ (y128.length : Int) then ((vivariumref02_Row.f k (y128.take (a0_0 : Int).toNat)).bind fun bt135 => (if a0_0 < (y128.length : Int) then (some (bt135.1, bt135.2, rdOf false y128 a0_0, 0)) else (none))) else (none)) else (none))) else (none)))) else (some (0, ([] : List Int), false, 20)))
def vivariumref02_Up.T4 : Bool × List (List Nat × List Nat) := (true, [([], []), ([], []), ([1], [1]), ([0, 2], [0, 2]), ([3], [3]), ([], []), ([], []), ([6], [6]), ([5, 7], [5, 7]), ([8], [8]), ([4, 4, 0, 1, 2, 3, 4], [4]), ([9, 10, 0, 1, 2, 3, 4, 5, 6, 7, 8, 9, 10], [9]), ([11, 0, 1, 2, 3, 4, 5, 6, 7, 8, 9, 10, 11], [])])
def vivariumref02_Up.B4 : List Nat := [0, 0, 2, 7, 15, 0, 0, 64, 224, 480, 31, 2047, 4095]
theorem vivariumref02_Up.tab4 : rtab .any (opsOf Tryd.f37 4) = vivariumref02_Up.T4 := by kernel_rfl
theorem vivariumref02_Up.bits4 : waitsOk vivariumref02_Up.T4.2 vivariumref02_Up.B4 = true := by kernel_rfl
set_option maxHeartbeats 8000000 in
set_option maxRecDepth 100000 in
theorem vivariumref02_Up.calls (k : Nat) (a0_0 : Int) (A0_1 : Option Addr) (c0_1 : Nat) (l0_1 : List Int) (a1 : Bool) (r1 : Int) (r2 : List Int) (r3 : Bool) (r4 : Int) (w : World) (hr0_1 : Kd.C (Kd.int .u64) w A0_1 l0_1.length l0_1) (hc0_1 : l0_1.length ≤ c0_1) (h : vivariumref02_Up.f k a0_0 l0_1 a1 = some (r1, r2, r3, r4)) :
    Calls Tryd.prog 37 #[.agg #[.int .i64 a0_0, .slice A0_1 l0_1.length c0_1], .bool a1] w fun e w' => ∃ v1_ : Value, e = .returned (.tuple #[.agg #[.int .i64 r1, v1_], .bool r3, .int .i64 r4]) ∧ Kd.R (Kd.int .u64) 58 w' w.heap.size (fun _ => True) v1_ r2 ∧ Below w.heap.size w w' := by
  have hu24 := Tryd.underlying24
  have HR0_1 := Aside0.mk hr0_1
  have HC0_1 := Aside0.mk hc0_1
  clear hr0_1 hc0_1
  have HB := Aside0.mk (Below.refl w.heap.size w)
  have H : ((vivariumref02_Valid.f k a0_0 l0_1).bind fun t121 => (if t121 = true then ((some (([a1] : List Bool) : List Bool)).bind fun y122 => ((vivariumref02_Bits.f k a0_0 l0_1).bind fun t125 => (if y122.length + t125.length < 140737488355328 then ((some (y122 ++ t125 : List Bool)).bind fun y128 => (if 0 ≤ a0_0 then (if a0_0 ≤ (y128.length : Int) then ((vivariumref02_Row.f k (y128.take (a0_0 : Int).toNat)).bind fun bt135 => (if a0_0 < (y128.length : Int) then (some (bt135.1, bt135.2, rdOf false y128 a0_0, 0)) else (none))) else (none)) else (none))) else (none)))) else (some (0, ([] : List Int), false, 20)))) = some (r1, r2, r3, r4) := h
  clear h
  replace H := Option.bind_eq_some_iff.mp H
  obtain ⟨t121, A30, H⟩ := H
  replace H : (if t121 = true then ((some (([a1] : List Bool) : List Bool)).bind fun y122 => ((vivariumref02_Bits.f k a0_0 l0_1).bind fun t125 => (if y122.length + t125.length < 140737488355328 then ((some (y122 ++ t125 : List Bool)).bind fun y128 => (if 0 ≤ a0_0 then (if a0_0 ≤ (y128.length : Int) then ((vivariumref02_Row.f k (y128.take (a0_0 : Int).toNat)).bind fun bt135 => (if a0_0 < (y128.length : Int) then (some (bt135.1, bt135.2, rdOf false y128 a0_0, 0)) else (none))) else (none)) else (none))) else (none)))) else (some (0, ([] : List Int), false, 20))) = some (r1, r2, r3, r4) := H
  have A3 := Aside0.mk A30
  clear A30
  by_cases c4 : t121 = true
  · subst c4
    have H1 : ((some (([a1] : List Bool) : List Bool)).bind fun y122 => ((vivariumref02_Bits.f k a0_0 l0_1).bind fun t125 => (if y122.length + t125.length < 140737488355328 then ((some (y122 ++ t125 : List Bool)).bind fun y128 => (if 0 ≤ a0_0 then (if a0_0 ≤ (y128.length : Int) then ((vivariumref02_Row.f k (y128.take (a0_0 : Int).toNat)).bind fun bt135 => (if a0_0 < (y128.length : Int) then (some (bt135.1, bt135.2, rdOf false y128 a0_0, 0)) else (none))) else (none)) else (none))) else (none)))) = some (r1, r2, r3, r4) := by rw [if_pos rfl] at H; exact H
    clear H
    have H := H1
    clear H1
    obtain ⟨y122, hy122⟩ : ∃ y_ : List Bool, y_ = (([a1] : List Bool)) := ⟨_, rfl⟩
    replace H : ((vivariumref02_Bits.f k a0_0 l0_1).bind fun t125 => (if y122.length + t125.length < 140737488355328 then ((some (y122 ++ t125 : List Bool)).bind fun y128 => (if 0 ≤ a0_0 then (if a0_0 ≤ (y128.length : Int) then ((vivariumref02_Row.f k (y128.take (a0_0 : Int).toNat)).bind fun bt135 => (if a0_0 < (y128.length : Int) then (some (bt135.1, bt135.2, rdOf false y128 a0_0, 0)) else (none))) else (none)) else (none))) else (none))) = some (r1, r2, r3, r4) := by first | (rw [hy122]; with_reducible exact H) | (have H2_ := (Option.bind_some _ _).symm.trans H; rw [hy122]; with_reducible exact H2_) | (have H2_ := (Option.bind_some _ _).symm.trans H; with_reducible exact H2_) | with_reducible exact H | (rw [hy122]; exact H) | exact H
    have Ny122 := Aside0.mk hy122
    clear hy122
    replace H := Option.bind_eq_some_iff.mp H
    obtain ⟨t125, A50, H⟩ := H
    replace H : (if y122.length + t125.length < 140737488355328 then ((some (y122 ++ t125 : List Bool)).bind fun y128 => (if 0 ≤ a0_0 then (if a0_0 ≤ (y128.length : Int) then ((vivariumref02_Row.f k (y128.take (a0_0 : Int).toNat)).bind fun bt135 => (if a0_0 < (y128.length : Int) then (some (bt135.1, bt135.2, rdOf false y128 a0_0, 0)) else (none))) else (none)) else (none))) else (none)) = some (r1, r2, r3, r4) := H
    have A5 := Aside0.mk A50
    clear A50
    by_cases c6 : y122.length + t125.length < 140737488355328
    · rw [if_pos c6] at H
      have LMc6 := Aside0.mk c6
      clear c6
      obtain ⟨y128, hy128⟩ : ∃ y_ : List Bool, y_ = (y122 ++ t125) := ⟨_, rfl⟩
      replace H : (if 0 ≤ a0_0 then (if a0_0 ≤ (y128.length : Int) then ((vivariumref02_Row.f k (y128.take (a0_0 : Int).toNat)).bind fun bt135 => (if a0_0 < (y128.length : Int) then (some (bt135.1, bt135.2, rdOf false y128 a0_0, 0)) else (none))) else (none)) else (none)) = some (r1, r2, r3, r4) := by first | (rw [hy128]; with_reducible exact H) | (have H2_ := (Option.bind_some _ _).symm.trans H; rw [hy128]; with_reducible exact H2_) | (have H2_ := (Option.bind_some _ _).symm.trans H; with_reducible exact H2_) | with_reducible exact H | (rw [hy128]; exact H) | exact H
      have Ny128 := Aside0.mk hy128
      clear hy128
      by_cases c7 : 0 ≤ a0_0
      · rw [if_pos c7] at H
        have c7b0 := eq_true c7
        have c7b1 : decide (0 ≤ a0_0) = true := decide_eq_true c7
        clear c7
        by_cases c8 : a0_0 ≤ (y128.length : Int)
        · rw [if_pos c8] at H
          have c8b0 := eq_true c8
          have c8b1 : decide (a0_0 ≤ (y128.length : Int)) = true := decide_eq_true c8
          clear c8
          obtain ⟨y131, hy131⟩ : ∃ y_ : List Bool, y_ = (y128.take (a0_0 : Int).toNat) := ⟨_, rfl⟩
          replace H : ((vivariumref02_Row.f k y131).bind fun bt135 => (if a0_0 < (y128.length : Int) then (some (bt135.1, bt135.2, rdOf false y128 a0_0, 0)) else (none))) = some (r1, r2, r3, r4) := by first | (rw [hy131]; with_reducible exact H) | (have H2_ := (Option.bind_some _ _).symm.trans H; rw [hy131]; with_reducible exact H2_) | (have H2_ := (Option.bind_some _ _).symm.trans H; with_reducible exact H2_) | with_reducible exact H | (rw [hy131]; exact H) | exact H
          have Ny131 := Aside0.mk hy131
          clear hy131
          replace H := Option.bind_eq_some_iff.mp H
          obtain ⟨⟨t135, t136⟩, A90, H⟩ := H
          replace H : (if a0_0 < (y128.length : Int) then (some (t135, t136, rdOf false y128 a0_0, 0)) else (none)) = some (r1, r2, r3, r4) := H
          have A9 := Aside0.mk A90
          clear A90
          by_cases c10 : a0_0 < (y128.length : Int)
          · rw [if_pos c10] at H
            have c10b0 : decide (a0_0 < (y128.length : Int)) = true := decide_eq_true c10
            clear c10
            simp only [Option.some.injEq, Prod.mk.injEq] at H
            obtain ⟨rfl, rfl, rfl, rfl⟩ := H
            go_enter Tryd.func37, Tryd.ntmps37
            try go_wp2_with (first | ((with_reducible refine gate_dst (N := 2) rfl ?_); refine box_event ?hg (N := 2) ?hd (cs := #[.int .i64 a0_0, .slice A0_1 l0_1.length c0_1]) (t := 24) ?hr ?_; (case hd => rfl); (case hg => rfl); (case hr => first | (go_simp; done) | (go_simp; rfl)); intro gb119 hg w11 hbox hb; have n0_ := Aside0.mk (below_step (by repeat (first | (with_reducible first | exact HB.out | apply below_alloc | apply pw_below_drewN | apply below_drew1) | exact HB.out)) hb); have n1_ := Aside0.mk (hbox); have n2_ := Aside0.mk ((by rw [hg]; exact (below_size (by repeat (first | (with_reducible first | exact HB.out | apply below_alloc | apply pw_below_drewN | apply below_drew1) | exact HB.out))) : w.heap.size ≤ gb119)); have n3_ := Aside0.mk ((by rw [hg]; exact (below_size (by repeat (first | (with_reducible first | exact HB.out | apply below_alloc | apply pw_below_drewN | apply below_drew1) | exact HB.out))) : w.heap.size ≤ gb119)); clear HB; have HB := n0_; have BK119 := n1_; have GW119 := n2_; have GE119 := n3_; clear n0_ n1_ n2_ n3_; clear hb hbox hg) | ((with_reducible refine gate_dst (N := 4) rfl ?_); refine box_event ?hg (N := 4) ?hd (cs := #[.int .i64 0, .slice none 0 0]) (t := 24) ?hr ?_; (case hd => rfl); (case hg => rfl); (case hr => first | (go_simp; done) | (go_simp; rfl)); intro gb120 hg w12 hbox hb; have n0_ := Aside0.mk (blk_below (g := gb119) (o := .cells #[.int .i64 a0_0, .slice A0_1 l0_1.length c0_1] 24 (0, 0)) (by (with_reducible repeat (first | refine blk_drewN ?_ _ | refine blk_drew ?_ | refine blk_alloc ?_ _)); exact BK119.out) hb); have n1_ := Aside0.mk (below_step (by repeat (first | (with_reducible first | exact HB.out | apply below_alloc | apply pw_below_drewN | apply below_drew1 | refine below_set ?_ GE119.out) | exact HB.out)) hb); have n2_ := Aside0.mk (hbox); have n3_ := Aside0.mk ((by rw [hg]; exact (below_size (by repeat (first | (with_reducible first | exact HB.out | apply below_alloc | apply pw_below_drewN | apply below_drew1 | refine below_set ?_ GE119.out) | exact HB.out))) : w.heap.size ≤ gb120)); have n4_ := Aside0.mk ((by rw [hg]; exact (below_size (by repeat (first | (with_reducible first | exact HB.out | apply below_alloc | apply pw_below_drewN | apply below_drew1 | refine below_set ?_ GE119.out) | exact HB.out))) : w.heap.size ≤ gb120)); have n5_ := Aside0.mk ((by rw [hg]; exact Nat.ne_of_lt (blk_lt (g := gb119) (o := .cells #[.int .i64 a0_0, .slice A0_1 l0_1.length c0_1] 24 (0, 0)) (by (with_reducible repeat (first | refine blk_drewN ?_ _ | refine blk_drew ?_ | refine blk_alloc ?_ _)); exact BK119.out)) : gb119 ≠ gb120)); have n6_ := Aside0.mk ((by rw [hg]; exact Nat.ne_of_gt (blk_lt (g := gb119) (o := .cells #[.int .i64 a0_0, .slice A0_1 l0_1.length c0_1] 24 (0, 0)) (by (with_reducible repeat (first | refine blk_drewN ?_ _ | refine blk_drew ?_ | refine blk_alloc ?_ _)); exact BK119.out)) : gb120 ≠ gb119)); clear BK119; clear HB; have BK119 := n0_; have HB := n1_; have BK120 := n2_; have GW120 := n3_; have GE120 := n4_; have NB119_120 := n5_; have NB120_119 := n6_; clear n0_ n1_ n2_ n3_ n4_ n5_ n6_; clear hb hbox hg; have hnb13 := NB119_120.out; have hnc13 := NB120_119.out; have hcz14_0 : w12.cell? ⟨gb119, 0, none⟩ = some (.int .i64 a0_0) := (blk_cell BK119.out 0).trans rfl; have hcz14_1 : w12.cell? ⟨gb119, 1, none⟩ = some (.slice A0_1 l0_1.length c0_1) := (blk_cell BK119.out 1).trans rfl; have hfz14_0 := blk_frozen BK119.out 0; have hfz14_1 := blk_frozen BK119.out 1) | ((with_reducible refine gate_callee (f := 28) rfl ?_); refine goesL_ (some 9) rfl rfl Tryd.func28 (by kernel_rfl) rfl #[.agg #[.int .i64 a0_0, .slice A0_1 l0_1.length c0_1]] rfl (by (try simp only [List.map_toArray, List.map_cons, List.map_nil]); first | done | rfl | (simp only [List.length_drop, List.length_take]; rfl)) ?_; (with_reducible refine (vivariumref02_Valid.calls k a0_0 _ _ l0_1 true _ ?side1 ?side2 A3.out).mono ?_); (case side1 => repeat (first | exact (Kd.C_below HR0_1.out HB.out) | (with_reducible refine Kd.C_alloc ?_ _) | (with_reducible refine Kd.C_drewN ?_ _) | (with_reducible refine Kd.C_drew ?_))); (case side2 => exact HC0_1.out); rintro e w15 ⟨rfl, hb⟩; refine ⟨_, rfl, ?_⟩; have n0_ := Aside0.mk (blk_below (g := gb119) (o := .cells #[.int .i64 a0_0, .slice A0_1 l0_1.length c0_1] 24 (0, 0)) (by (with_reducible repeat (first | refine blk_drewN ?_ _ | refine blk_drew ?_ | refine blk_alloc ?_ _)); exact BK119.out) hb); have n1_ := Aside0.mk (blk_below (g := gb120) (o := .cells #[.int .i64 0, .slice none 0 0] 24 (0, 0)) (by (with_reducible repeat (first | refine blk_drewN ?_ _ | refine blk_drew ?_ | refine blk_alloc ?_ _)); exact BK120.out) hb); have n2_ := Aside0.mk (below_step (by repeat (first | (with_reducible first | exact HB.out | apply below_alloc | apply pw_below_drewN | apply below_drew1 | refine below_set ?_ GE119.out | refine below_set ?_ GE120.out) | exact HB.out)) hb); clear BK119; clear BK120; clear HB; have BK119 := n0_; have BK120 := n1_; have HB := n2_; clear n0_ n1_ n2_; (try clear hb); (try clear hb2); (try clear hk); (try clear hi)) | ((with_reducible refine gate_dst (N := 13) rfl ?_); refine Kd.R_lit Kd.bool _ 4 ?hg (N := 13) ?hd (xs := ([a1] : List Bool)) (inner := [.bool a1]) (ok := fun _ => True) (okp := fun _ => True) ?hr ?hp (fun _ hk => hk) trivial (Below.refl _ _) (Nat.le_refl _) (by simp) ?_; (case hd => rfl); (case hg => rfl); (case hr => first | (go_simp; done) | (go_simp; rfl)); (case hp => exact (Reps.one (show Kd.M Kd.bool _ _ _ a1 [.bool a1] from rfl) (Reps.none _ _))); intro v123 w16 ho17 hb hg_ hnew_; clear hg_ hnew_; (first | rw [← Ny122.out] at ho17 | (simp only [Int.reduceToNat] at ho17; rw [← Ny122.out] at ho17)); have n0_ := Aside0.mk (Kd.R_lower ho17 (below_size (by repeat (first | (with_reducible first | exact HB.out | apply below_alloc | apply pw_below_drewN | apply below_drew1 | refine below_set ?_ GE119.out | refine below_set ?_ GE120.out) | exact HB.out)))); have n1_ := Aside0.mk (blk_below (g := gb119) (o := .cells #[.int .i64 a0_0, .slice A0_1 l0_1.length c0_1] 24 (0, 0)) (by (with_reducible repeat (first | refine blk_drewN ?_ _ | refine blk_drew ?_ | refine blk_alloc ?_ _)); exact BK119.out) hb); have n2_ := Aside0.mk (blk_below (g := gb120) (o := .cells #[.int .i64 0, .slice none 0 0] 24 (0, 0)) (by (with_reducible repeat (first | refine blk_drewN ?_ _ | refine blk_drew ?_ | refine blk_alloc ?_ _)); exact BK120.out) hb); have n3_ := Aside0.mk (below_step (by repeat (first | (with_reducible first | exact HB.out | apply below_alloc | apply pw_below_drewN | apply below_drew1 | refine below_set ?_ GE119.out | refine below_set ?_ GE120.out) | exact HB.out)) hb); clear BK119; clear BK120; clear HB; have HO124 := n0_; have BK119 := n1_; have BK120 := n2_; have HB := n3_; clear n0_ n1_ n2_ n3_; clear hb ho17; have hcz18_0 : w16.cell? ⟨gb119, 0, none⟩ = some (.int .i64 a0_0) := (blk_cell BK119.out 0).trans rfl; have hcz18_1 : w16.cell? ⟨gb119, 1, none⟩ = some (.slice A0_1 l0_1.length c0_1) := (blk_cell BK119.out 1).trans rfl; have hfz18_0 := blk_frozen BK119.out 0; have hfz18_1 := blk_frozen BK119.out 1) | ((with_reducible refine gate_callee (f := 43) rfl ?_); refine goesL_ (some 15) rfl rfl Tryd.func43 (by kernel_rfl) rfl #[.agg #[.int .i64 a0_0, .slice A0_1 l0_1.length c0_1]] rfl (by (try simp only [List.map_toArray, List.map_cons, List.map_nil]); first | done | rfl | (simp only [List.length_drop, List.length_take]; rfl)) ?_; (with_reducible refine (vivariumref02_Bits.calls k a0_0 _ _ l0_1 t125 _ ?side1 ?side2 A5.out).mono ?_); (case side1 => repeat (first | exact (Kd.C_below HR0_1.out HB.out) | (with_reducible refine Kd.C_alloc ?_ _) | (with_reducible refine Kd.C_drewN ?_ _) | (with_reducible refine Kd.C_drew ?_))); (case side2 => exact HC0_1.out); rintro e w19 ⟨v126, rfl, ho0, hb⟩; refine ⟨_, rfl, ?_⟩; have n0_ := Aside0.mk (Kd.R_elder' (by (with_reducible repeat (first | apply Kd.R_alloc | apply Kd.R_drewN | apply Kd.R_drew)); exact HO124.out) (Kd.R_base ho0) hb); have n1_ := Aside0.mk (Kd.R_lower (Kd.R_new' ho0 (Kd.R_lt (by (with_reducible repeat (first | apply Kd.R_alloc | apply Kd.R_drewN | apply Kd.R_drew)); exact HO124.out))) (below_size (by repeat (first | (with_reducible first | exact HB.out | apply below_alloc | apply pw_below_drewN | apply below_drew1 | refine below_set ?_ GE119.out | refine below_set ?_ GE120.out) | exact HB.out)))); have n2_ := Aside0.mk (blk_below (g := gb119) (o := .cells #[.int .i64 a0_0, .slice A0_1 l0_1.length c0_1] 24 (0, 0)) (by (with_reducible repeat (first | refine blk_drewN ?_ _ | refine blk_drew ?_ | refine blk_alloc ?_ _)); exact BK119.out) hb); have n3_ := Aside0.mk (blk_below (g := gb120) (o := .cells #[.int .i64 0, .slice none 0 0] 24 (0, 0)) (by (with_reducible repeat (first | refine blk_drewN ?_ _ | refine blk_drew ?_ | refine blk_alloc ?_ _)); exact BK120.out) hb); have n4_ := Aside0.mk (below_step (by repeat (first | (with_reducible first | exact HB.out | apply below_alloc | apply pw_below_drewN | apply below_drew1 | refine below_set ?_ GE119.out | refine below_set ?_ GE120.out) | exact HB.out)) hb); clear HO124; clear BK119; clear BK120; clear HB; have HO124 := n0_; have HO127 := n1_; have BK119 := n2_; have BK120 := n3_; have HB := n4_; clear n0_ n1_ n2_ n3_ n4_; (try clear hb); (try clear hb2); (try clear hk); (try clear hi); (try clear ho0); obtain ⟨Ao21, co21, eo21⟩ := Kd.R_slice HO127.out; subst eo21) | ((with_reducible refine gate_builtin (b := .append) (xs := #[.tmp 13, .tmp 15]) rfl ?_); at_builtin; refine Kd.R_append_rows Kd.bool (w0 := w) w.heap.size rfl (.tmp 13) (.tmp 15) 47 4 (.bool false) 1 rfl Tryd.underlying47 info4 rfl (by decide) (by omega) v123 y122 t125 _ _ _ (fun k_ => some k_ ≠ (.slice Ao21 t125.length co21 : Value).ownBlock) (fun _ => False) rfl rfl ?aO ?aR (fun _ _ h => h) (fun _ h => h.elim) ?aF ?aB ?aS ?aL ?_; (case aR => repeat (first | exact (Kd.R_reads' HO127.out).2.2 | (with_reducible refine Kd.C_alloc ?_ _) | (with_reducible refine Kd.C_drewN ?_ _) | (with_reducible refine Kd.C_drew ?_))); (case aB => exact (by repeat (first | (with_reducible first | exact HB.out | apply below_alloc | apply pw_below_drewN | apply below_drew1 | refine below_set ?_ GE119.out | refine below_set ?_ GE120.out) | exact HB.out))); (case aF => exact (fun k_ hk => Kd.fresh' (Kd.R_lt (by (with_reducible repeat (first | apply Kd.R_alloc | apply Kd.R_drewN | apply Kd.R_drew)); exact HO127.out)) k_ hk)); (case aO => exact (by (with_reducible repeat (first | apply Kd.R_alloc | apply Kd.R_drewN | apply Kd.R_drew)); exact Kd.R_mono HO124.out (fun _ hk => hk.2))); (case aS => exact (below_size (by repeat (first | (with_reducible first | exact HB.out | apply below_alloc | apply pw_below_drewN | apply below_drew1 | refine below_set ?_ GE119.out | refine below_set ?_ GE120.out) | exact HB.out)))); (case aL => have := LMc6.out; omega); intro v129 w20 ho hb hg hat; rw [← Ny128.out] at ho; have n0_ := Aside0.mk (blk_grown (g := gb119) (o := .cells #[.int .i64 a0_0, .slice A0_1 l0_1.length c0_1] 24 (0, 0)) (by (with_reducible repeat (first | refine blk_drewN ?_ _ | refine blk_drew ?_ | refine blk_alloc ?_ _)); exact BK119.out) hg (Kd.R_ne HO124.out BK119.out (by decide))); have n1_ := Aside0.mk (blk_grown (g := gb120) (o := .cells #[.int .i64 0, .slice none 0 0] 24 (0, 0)) (by (with_reducible repeat (first | refine blk_drewN ?_ _ | refine blk_drew ?_ | refine blk_alloc ?_ _)); exact BK120.out) hg (Kd.R_ne HO124.out BK120.out (by decide))); have n2_ := Aside0.mk (Kd.R_after (ok := (fun _ => True)) (by (with_reducible repeat (first | apply Kd.R_alloc | apply Kd.R_drewN | apply Kd.R_drew)); exact HO127.out) hg hat); have n3_ := Aside0.mk (hb); have n4_ := Aside0.mk (ho); clear BK119; clear BK120; clear HO127; clear HB; clear HO124; have BK119 := n0_; have BK120 := n1_; have HO127 := n2_; have HB := n3_; have HO130 := n4_; clear n0_ n1_ n2_ n3_ n4_; clear ho hb hg hat))
            have n0_ := Aside0.mk (Kd.R_drew HO127.out)
            have n1_ := Aside0.mk (Kd.R_drew HO130.out)
            have n2_ := Aside0.mk (blk_drew BK119.out)
            have n3_ := Aside0.mk (blk_drew BK120.out)
            have n4_ := Aside0.mk (below_drew1 HB.out)
            clear HO127
            clear HO130
            clear BK119
            clear BK120
            clear HB
            have HO127 := n0_
            have HO130 := n1_
            have BK119 := n2_
            have BK120 := n3_
            have HB := n4_
            clear n0_ n1_ n2_ n3_ n4_
            obtain ⟨Ao24, co24, eo24⟩ := Kd.R_slice HO130.out
            (first | subst eo24 | (injection eo24 with f1_ f2_ f3_; have f4_ := f1_.symm; have f5_ := f3_.symm; clear f1_ f2_ f3_; subst f4_; subst f5_))
            have q23 : (a0_0 : Int) ≤ ((y128.length : Int) : Int) := of_decide_eq_true (by first | (with_reducible assumption) | assumption)
            obtain ⟨i023, hi023, _, hsz23, _⟩ := info_parts info4
            have hroom23 : y128.length ≤ co24 := (Kd.R_reads' HO130.out).2.1
            have hC23 : Kd.C Kd.bool _ Ao24 y128.length y128 := (Kd.R_reads' HO130.out).2.2
            have hcut23 := cut_to (P := Tryd.prog) 47 4 .i64 Tryd.underlying47 hi023 Ao24 y128.length co24 a0_0 (of_decide_eq_true (by first | (with_reducible assumption) | assumption)) q23 hroom23
            have hr23 := Kd.C_take (m := (a0_0 : Int).toNat) hC23 (by omega)
            have hy23 : y131.length = (a0_0 : Int).toNat := (by rw [Ny131.out, List.length_take]; omega)
            rw [← Ny131.out] at hr23
            rw [← hy23] at hcut23
            have HR134 := Aside0.mk hr23
            have HC134 := Aside0.mk (show y131.length ≤ co24 from by omega)
            clear hr23 hC23 hroom23 hi023 hsz23
            have KY23 := Aside0.mk hy23
            clear hy23
            have KL23 := Aside0.mk (show (a0_0 : Int).toNat ≤ y128.length from by omega)
            replace q23 := eq_true q23
            have p139 : 0 ≤ (a0_0 : Int) := of_decide_eq_true (by first | (with_reducible assumption) | assumption)
            have q139 : a0_0 < (y128.length : Int) := of_decide_eq_true (by first | (with_reducible assumption) | assumption)
            obtain ⟨ad139, e139, hx139_0⟩ := Kd.at_bool (Kd.R_reads' HO130.out).2.2 a0_0 p139 q139
            cases e139
            replace p139 := eq_true p139
            replace q139 := eq_true q139
            refine start_ (n := 13) (S := fun w' => w'.cell? ⟨gb119, 0, none⟩ = some (.int .i64 a0_0) ∧ w'.cell? ⟨gb119, 1, none⟩ = some (.slice A0_1 l0_1.length c0_1) ∧ w'.cell? (ad139.add (a0_0).toNat) = some (.bool (rdOf false y128 a0_0))) (ds := []) #[false, false, false, false, false, false, false, false, false, false, false, false, false] (by kernel_rfl) rfl rfl ⟨(blk_cell BK119.out 0).trans rfl, (blk_cell BK119.out 1).trans rfl, hx139_0⟩ (fun hHeld => ?_); refine with_tabW vivariumref02_Up.tab4 vivariumref02_Up.bits4 (fun HT_ HW_ => ?_)
            generalize w20.drew = w22 at HO127 HO130 BK119 BK120 HB HR134 hx139_0 hHeld ⊢
            refine pure_ (i := 0) (N := some 17) (v := ?_) (a' := ?_) #[true, false, false, false, false, false, false, false, false, false, false, false, false] rfl rfl (any_of HT_.out (by kernel_rfl)) (fun _ _ _ h => h) (Or.inl ⟨by rfl, ?_⟩) ?_ ?_
            rotate_left
            · intro w'
              go_simp
              with_reducible rfl
            rotate_left
            · simp only [Act.put, List.setIfInBounds_toArray, List.set_cons_zero, List.set_cons_succ, i64_w, i32_w]
              rfl
            refine pure_ (i := 1) (N := some 18) (v := ?_) (a' := ?_) #[true, true, false, false, false, false, false, false, false, false, false, false, false] rfl rfl (any_of HT_.out (by kernel_rfl)) (fun _ _ _ h => h) (Or.inl ⟨by rfl, ?_⟩) ?_ ?_
            rotate_left
            · intro w'
              go_simp
              with_reducible rfl
            rotate_left
            · simp only [Act.put, List.setIfInBounds_toArray, List.set_cons_zero, List.set_cons_succ, i64_w, i32_w]
              rfl
            refine pure_ (i := 5) (N := some 22) (v := ?_) (a' := ?_) #[true, true, false, false, false, true, false, false, false, false, false, false, false] rfl rfl (any_of HT_.out (by kernel_rfl)) (fun _ _ _ h => h) (Or.inl ⟨by rfl, ?_⟩) ?_ ?_
            rotate_left
            · intro w'
              go_simp
              with_reducible rfl
            rotate_left
            · simp only [Act.put, List.setIfInBounds_toArray, List.set_cons_zero, List.set_cons_succ, i64_w, i32_w]
              rfl
            refine pure_ (i := 6) (N := some 23) (v := ?_) (a' := ?_) #[true, true, false, false, false, true, true, false, false, false, false, false, false] rfl rfl (any_of HT_.out (by kernel_rfl)) (fun _ _ _ h => h) (Or.inl ⟨by rfl, ?_⟩) ?_ ?_
            rotate_left
            · intro w'
              go_simp
              with_reducible rfl
            rotate_left
            · simp only [Act.put, List.setIfInBounds_toArray, List.set_cons_zero, List.set_cons_succ, i64_w, i32_w]
              rfl
            refine take_ (i := 2) (N := some 19) (v := ?_) (a' := ?_) #[true, true, true, false, false, true, true, false, false, false, false, false, false] rfl rfl (take_ofW HT_.out HW_.out (by kernel_rfl)) (fun _ _ _ h => h) (Or.inl ⟨by rfl, ?_⟩) hHeld ?_ ?_
            rotate_left
            · rintro w' ⟨s0, s1, s2⟩
              go_simp
              with_reducible rfl
            rotate_left
            · simp only [Act.put, List.setIfInBounds_toArray, List.set_cons_zero, List.set_cons_succ, i64_w, i32_w]
              rfl
            refine pure_ (i := 3) (N := some 20) (v := ?_) (a' := ?_) #[true, true, true, true, false, true, true, false, false, false, false, false, false] rfl rfl (any_of HT_.out (by kernel_rfl)) (fun _ _ _ h => h) (Or.inl ⟨by rfl, ?_⟩) ?_ ?_
            rotate_left
            · intro w'
              go_simp
              with_reducible rfl
            rotate_left
            · simp only [Act.put, List.setIfInBounds_toArray, List.set_cons_zero, List.set_cons_succ, i64_w, i32_w]
              rfl
            refine take_ (i := 7) (N := some 24) (v := ?_) (a' := ?_) #[true, true, true, true, false, true, true, true, false, false, false, false, false] rfl rfl (take_ofW HT_.out HW_.out (by kernel_rfl)) (fun _ _ _ h => h) (Or.inl ⟨by rfl, ?_⟩) hHeld ?_ ?_
            rotate_left
            · rintro w' ⟨s0, s1, s2⟩
              go_simp
              with_reducible rfl
            rotate_left
            · simp only [Act.put, List.setIfInBounds_toArray, List.set_cons_zero, List.set_cons_succ, i64_w, i32_w]
              rfl
            refine pure_ (i := 8) (N := some 25) (v := ?_) (a' := ?_) #[true, true, true, true, false, true, true, true, true, false, false, false, false] rfl rfl (any_of HT_.out (by kernel_rfl)) (fun _ _ _ h => h) (Or.inl ⟨by rfl, ?_⟩) ?_ ?_
            rotate_left
            · intro w'
              go_simp
              with_reducible rfl
            rotate_left
            · simp only [Act.put, List.setIfInBounds_toArray, List.set_cons_zero, List.set_cons_succ, i64_w, i32_w]
              rfl
            refine take_ (i := 9) (N := some 26) (v := ?_) (a' := ?_) #[true, true, true, true, false, true, true, true, true, true, false, false, false] rfl rfl (take_ofW HT_.out HW_.out (by kernel_rfl)) (fun _ _ _ h => h) (Or.inl ⟨by rfl, ?_⟩) hHeld ?_ ?_
            rotate_left
            · rintro w' ⟨s0, s1, s2⟩
              go_simp
              with_reducible rfl
            rotate_left
            · simp only [Act.put, List.setIfInBounds_toArray, List.set_cons_zero, List.set_cons_succ, i64_w, i32_w]
              rfl
            refine one_ (i := 4) (N := some 21) #[true, true, true, true, true, true, true, true, true, true, false, false, false] rfl rfl (one_of HT_.out (by kernel_rfl)) (by decide) (fun K hK => ?_)
            refine goes_ Tryd.func44 (by kernel_rfl) rfl #[.slice (some ad139) y131.length co24] (by rfl) rfl rfl (by (try simp only [List.map_toArray, List.map_cons, List.map_nil]); first | done | rfl | (simp only [List.length_drop, List.length_take]; rfl)) ?_
            with_reducible refine (vivariumref02_Row.calls k _ _ y131 t135 t136 _ ?side1 ?side2 A9.out).mono ?_
            (case side1 => repeat (first | exact (by repeat (first | (with_reducible exact HR134.out) | (with_reducible refine Kd.C_alloc ?_ _) | (with_reducible refine Kd.C_drewN ?_ _) | (with_reducible refine Kd.C_drew ?_) | exact HR134.out)) | (with_reducible refine Kd.C_alloc ?_ _) | (with_reducible refine Kd.C_drewN ?_ _) | (with_reducible refine Kd.C_drew ?_)))
            (case side2 => exact HC134.out)
            rintro e w25 ⟨v137, rfl, ho0, hb⟩
            have HS2_ := (hb.cell (World.block_lt_of_cell? _ _ (hHeld.2.2))).trans (hHeld.2.2)
            refine ⟨_, rfl, ?_⟩
            have n0_ := Aside0.mk (Kd.R_below (by (with_reducible repeat (first | apply Kd.R_alloc | apply Kd.R_drewN | apply Kd.R_drew)); exact HO127.out) hb)
            have n1_ := Aside0.mk (Kd.R_below (by (with_reducible repeat (first | apply Kd.R_alloc | apply Kd.R_drewN | apply Kd.R_drew)); exact HO130.out) hb)
            have n2_ := Aside0.mk (Kd.R_lower ho0 (below_size (by repeat (first | (with_reducible first | exact HB.out | apply below_alloc | apply pw_below_drewN | apply below_drew1 | refine below_set ?_ GE119.out | refine below_set ?_ GE120.out) | exact HB.out))))
            have n3_ := Aside0.mk (blk_below (g := gb119) (o := .cells #[.int .i64 a0_0, .slice A0_1 l0_1.length c0_1] 24 (0, 0)) (by (with_reducible repeat (first | refine blk_drewN ?_ _ | refine blk_drew ?_ | refine blk_alloc ?_ _)); exact BK119.out) hb)
            have n4_ := Aside0.mk (blk_below (g := gb120) (o := .cells #[.int .i64 0, .slice none 0 0] 24 (0, 0)) (by (with_reducible repeat (first | refine blk_drewN ?_ _ | refine blk_drew ?_ | refine blk_alloc ?_ _)); exact BK120.out) hb)
            have n5_ := Aside0.mk (Kd.C_below (by repeat (first | (with_reducible exact HR134.out) | (with_reducible refine Kd.C_alloc ?_ _) | (with_reducible refine Kd.C_drewN ?_ _) | (with_reducible refine Kd.C_drew ?_) | exact HR134.out)) hb)
            have n6_ := Aside0.mk (below_step (by repeat (first | (with_reducible first | exact HB.out | apply below_alloc | apply pw_below_drewN | apply below_drew1 | refine below_set ?_ GE119.out | refine below_set ?_ GE120.out) | exact HB.out)) hb)
            clear HO127
            clear HO130
            clear BK119
            clear BK120
            clear HR134
            clear HB
            have HO127 := n0_
            have HO130 := n1_
            have HO138 := n2_
            have BK119 := n3_
            have BK120 := n4_
            have HR134 := n5_
            have HB := n6_
            clear n0_ n1_ n2_ n3_ n4_ n5_ n6_
            (try clear hb)
            (try clear hb2)
            (try clear hk)
            (try clear hi)
            (try clear ho0)
            obtain ⟨Ao27, co27, eo27⟩ := Kd.R_slice HO138.out
            (first | subst eo27 | (injection eo27 with f1_ f2_ f3_; have f4_ := f1_.symm; have f5_ := f3_.symm; clear f1_ f2_ f3_; subst f4_; subst f5_))
            refine hK.out _ _ ⟨(blk_cell BK119.out 0).trans rfl, (blk_cell BK119.out 1).trans rfl, HS2_⟩ (fun hHeld => ?_)
            clear hK K
            refine norm_ (a' := ?_) ?_ ?_
            rotate_left
            · show Act.put _ (some 21) _ = _
              simp only [Act.put, List.setIfInBounds_toArray, List.set_cons_zero, List.set_cons_succ, i64_w, i32_w]
              rfl
            refine one_ (i := 10) (N := none) #[true, true, true, true, true, true, true, true, true, true, true, false, false] rfl rfl (one_of HT_.out (by kernel_rfl)) (by decide) (fun K hK => ?_)
            have hs26 : w25.cell? ⟨gb120, 0, none⟩ = some (.int .i64 0) := (blk_cell BK120.out 0).trans rfl
            have hfs26 := blk_frozen BK120.out 0
            have hns26_0 := NB119_120.out
            have hms26_0 := NB120_119.out
            have hs28 : w25.cell? ⟨gb120, 1, none⟩ = some (.slice none 0 0) := (blk_cell BK120.out 1).trans rfl
            have hfs28 := blk_frozen BK120.out 1
            have hns28_0 := NB119_120.out
            have hms28_0 := NB120_119.out
            refine skip_ (w1 := ?_) (by rfl) rfl ?_ ?_
            rotate_left
            · go_simp
              rfl
            refine hK.out _ _ ⟨((cell_far (p := ⟨gb120, _, none⟩) NB119_120.out _).trans (((cell_far (p := ⟨gb120, _, none⟩) NB119_120.out _).trans (hHeld.1)))), ((cell_far (p := ⟨gb120, _, none⟩) NB119_120.out _).trans (((cell_far (p := ⟨gb120, _, none⟩) NB119_120.out _).trans (hHeld.2.1)))), ((cell_far (p := ⟨gb120, _, none⟩) (by first | exact Kd.own_blk (Kd.R_ne HO130.out BK120.out (by decide)) | (rw [add_block]; exact Kd.own_blk (Kd.R_ne HO130.out BK120.out (by decide))) | (show (Addr.add _ _).block ≠ _; rw [add_block]; exact Kd.own_blk (Kd.R_ne HO130.out BK120.out (by decide))) | (dsimp only; exact Kd.own_blk (Kd.R_ne HO130.out BK120.out (by decide)))) _).trans (((cell_far (p := ⟨gb120, _, none⟩) (by first | exact Kd.own_blk (Kd.R_ne HO130.out BK120.out (by decide)) | (rw [add_block]; exact Kd.own_blk (Kd.R_ne HO130.out BK120.out (by decide))) | (show (Addr.add _ _).block ≠ _; rw [add_block]; exact Kd.own_blk (Kd.R_ne HO130.out BK120.out (by decide))) | (dsimp only; exact Kd.own_blk (Kd.R_ne HO130.out BK120.out (by decide)))) _).trans (hHeld.2.2))))⟩ (fun hHeld => ?_)
            clear hK K
            refine pure_ (i := 11) (N := some 5) (v := ?_) (a' := ?_) #[true, true, true, true, true, true, true, true, true, true, true, true, false] rfl rfl (any_of HT_.out (by kernel_rfl)) (fun _ _ _ h => h) (Or.inl ⟨by rfl, ?_⟩) ?_ ?_
            rotate_left
            · intro w'
              go_simp
              with_reducible rfl
            rotate_left
            · simp only [Act.put, List.setIfInBounds_toArray, List.set_cons_zero, List.set_cons_succ, i64_w, i32_w]
              rfl
            refine pure_ (i := 12) (N := some 6) (v := ?_) (a' := ?_) #[true, true, true, true, true, true, true, true, true, true, true, true, true] rfl rfl (any_of HT_.out (by kernel_rfl)) (fun _ _ _ h => h) (Or.inl ⟨by rfl, ?_⟩) ?_ ?_
            rotate_left
            · intro w'
              go_simp
              with_reducible rfl
            rotate_left
            · simp only [Act.put, List.setIfInBounds_toArray, List.set_cons_zero, List.set_cons_succ, i64_w, i32_w]
              rfl
            refine done_ (done_of HT_.out (by kernel_rfl)) ?_
            try go_wp2
            refine bodyPost_ret (results_ctt rfl _ _ gb120 24 #[.int .i64 t135, .slice Ao27 t136.length co27] (0, 0) _ rfl (by (with_reducible repeat (first | refine blk_drewN ?_ _ | refine blk_drew ?_ | refine blk_alloc ?_ _)); refine blk_put (cs := #[.int .i64 t135, .slice none 0 0]) ?_ 1 _ rfl; (with_reducible repeat (first | refine blk_drewN ?_ _ | refine blk_drew ?_ | refine blk_alloc ?_ _)); refine blk_put (cs := #[.int .i64 0, .slice none 0 0]) ?_ 0 _ rfl; (with_reducible repeat (first | refine blk_drewN ?_ _ | refine blk_drew ?_ | refine blk_alloc ?_ _)); exact BK120.out) Tryd.underlying24 rfl (by kernel_rfl)) rfl ?_
            exact ⟨_, by first | rfl | (simp [errW_none, errW_some] <;> rfl) | (simp [*, errW_none, errW_some] <;> rfl), by (with_reducible repeat (first | apply Kd.R_alloc | apply Kd.R_drewN | apply Kd.R_drew)); exact Kd.R_mono (Kd.R_far (p := ⟨gb120, 1, none⟩) (Kd.R_far (p := ⟨gb120, 0, none⟩) (Kd.R_types HO138.out BK120.out (by decide)) (fun _ hk => hk.2) (.int .i64 t135)) (fun _ hk => hk.2) (.slice Ao27 t136.length co27)) (fun _ hk => trivial), by repeat (first | (with_reducible first | exact HB.out | apply below_alloc | apply pw_below_drewN | apply below_drew1 | refine below_set ?_ GE119.out | refine below_set ?_ GE120.out) | exact HB.out)⟩
          · rw [if_neg c10] at H
            exact absurd H (by simp)
        · rw [if_neg c8] at H
          exact absurd H (by simp)
      · rw [if_neg c7] at H
        exact absurd H (by simp)
    · rw [if_neg c6] at H
      exact absurd H (by simp)
  · replace c4 := Bool.eq_false_iff.mpr c4
    subst c4
    have H1 : (some (0, ([] : List Int), false, 20)) = some (r1, r2, r3, r4) := by rw [if_neg (show ¬ (false = true) by decide)] at H; exact H
    clear H
    have H := H1
    clear H1
    simp only [Option.some.injEq, Prod.mk.injEq] at H
    obtain ⟨rfl, rfl, rfl, rfl⟩ := H
    go_enter Tryd.func37, Tryd.ntmps37
    go_wp2_with (first | ((with_reducible refine gate_dst (N := 2) rfl ?_); refine box_event ?hg (N := 2) ?hd (cs := #[.int .i64 a0_0, .slice A0_1 l0_1.length c0_1]) (t := 24) ?hr ?_; (case hd => rfl); (case hg => rfl); (case hr => first | (go_simp; done) | (go_simp; rfl)); intro gb119 hg w29 hbox hb; have n0_ := Aside0.mk (below_step (by repeat (first | (with_reducible first | exact HB.out | apply below_alloc | apply pw_below_drewN | apply below_drew1) | exact HB.out)) hb); have n1_ := Aside0.mk (hbox); have n2_ := Aside0.mk ((by rw [hg]; exact (below_size (by repeat (first | (with_reducible first | exact HB.out | apply below_alloc | apply pw_below_drewN | apply below_drew1) | exact HB.out))) : w.heap.size ≤ gb119)); have n3_ := Aside0.mk ((by rw [hg]; exact (below_size (by repeat (first | (with_reducible first | exact HB.out | apply below_alloc | apply pw_below_drewN | apply below_drew1) | exact HB.out))) : w.heap.size ≤ gb119)); clear HB; have HB := n0_; have BK119 := n1_; have GW119 := n2_; have GE119 := n3_; clear n0_ n1_ n2_ n3_; clear hb hbox hg) | ((with_reducible refine gate_dst (N := 4) rfl ?_); refine box_event ?hg (N := 4) ?hd (cs := #[.int .i64 0, .slice none 0 0]) (t := 24) ?hr ?_; (case hd => rfl); (case hg => rfl); (case hr => first | (go_simp; done) | (go_simp; rfl)); intro gb120 hg w30 hbox hb; have n0_ := Aside0.mk (blk_below (g := gb119) (o := .cells #[.int .i64 a0_0, .slice A0_1 l0_1.length c0_1] 24 (0, 0)) (by (with_reducible repeat (first | refine blk_drewN ?_ _ | refine blk_drew ?_ | refine blk_alloc ?_ _)); exact BK119.out) hb); have n1_ := Aside0.mk (below_step (by repeat (first | (with_reducible first | exact HB.out | apply below_alloc | apply pw_below_drewN | apply below_drew1 | refine below_set ?_ GE119.out) | exact HB.out)) hb); have n2_ := Aside0.mk (hbox); have n3_ := Aside0.mk ((by rw [hg]; exact (below_size (by repeat (first | (with_reducible first | exact HB.out | apply below_alloc | apply pw_below_drewN | apply below_drew1 | refine below_set ?_ GE119.out) | exact HB.out))) : w.heap.size ≤ gb120)); have n4_ := Aside0.mk ((by rw [hg]; exact (below_size (by repeat (first | (with_reducible first | exact HB.out | apply below_alloc | apply pw_below_drewN | apply below_drew1 | refine below_set ?_ GE119.out) | exact HB.out))) : w.heap.size ≤ gb120)); have n5_ := Aside0.mk ((by rw [hg]; exact Nat.ne_of_lt (blk_lt (g := gb119) (o := .cells #[.int .i64 a0_0, .slice A0_1 l0_1.length c0_1] 24 (0, 0)) (by (with_reducible repeat (first | refine blk_drewN ?_ _ | refine blk_drew ?_ | refine blk_alloc ?_ _)); exact BK119.out)) : gb119 ≠ gb120)); have n6_ := Aside0.mk ((by rw [hg]; exact Nat.ne_of_gt (blk_lt (g := gb119) (o := .cells #[.int .i64 a0_0, .slice A0_1 l0_1.length c0_1] 24 (0, 0)) (by (with_reducible repeat (first | refine blk_drewN ?_ _ | refine blk_drew ?_ | refine blk_alloc ?_ _)); exact BK119.out)) : gb120 ≠ gb119)); clear BK119; clear HB; have BK119 := n0_; have HB := n1_; have BK120 := n2_; have GW120 := n3_; have GE120 := n4_; have NB119_120 := n5_; have NB120_119 := n6_; clear n0_ n1_ n2_ n3_ n4_ n5_ n6_; clear hb hbox hg; have hnb31 := NB119_120.out; have hnc31 := NB120_119.out; have hcz32_0 : w30.cell? ⟨gb119, 0, none⟩ = some (.int .i64 a0_0) := (blk_cell BK119.out 0).trans rfl; have hcz32_1 : w30.cell? ⟨gb119, 1, none⟩ = some (.slice A0_1 l0_1.length c0_1) := (blk_cell BK119.out 1).trans rfl; have hfz32_0 := blk_frozen BK119.out 0; have hfz32_1 := blk_frozen BK119.out 1) | ((with_reducible refine gate_callee (f := 28) rfl ?_); refine goesL_ (some 9) rfl rfl Tryd.func28 (by kernel_rfl) rfl #[.agg #[.int .i64 a0_0, .slice A0_1 l0_1.length c0_1]] rfl (by (try simp only [List.map_toArray, List.map_cons, List.map_nil]); first | done | rfl | (simp only [List.length_drop, List.length_take]; rfl)) ?_; (with_reducible refine (vivariumref02_Valid.calls k a0_0 _ _ l0_1 false _ ?side1 ?side2 A3.out).mono ?_); (case side1 => repeat (first | exact (Kd.C_below HR0_1.out HB.out) | (with_reducible refine Kd.C_alloc ?_ _) | (with_reducible refine Kd.C_drewN ?_ _) | (with_reducible refine Kd.C_drew ?_))); (case side2 => exact HC0_1.out); rintro e w33 ⟨rfl, hb⟩; refine ⟨_, rfl, ?_⟩; have n0_ := Aside0.mk (blk_below (g := gb119) (o := .cells #[.int .i64 a0_0, .slice A0_1 l0_1.length c0_1] 24 (0, 0)) (by (with_reducible repeat (first | refine blk_drewN ?_ _ | refine blk_drew ?_ | refine blk_alloc ?_ _)); exact BK119.out) hb); have n1_ := Aside0.mk (blk_below (g := gb120) (o := .cells #[.int .i64 0, .slice none 0 0] 24 (0, 0)) (by (with_reducible repeat (first | refine blk_drewN ?_ _ | refine blk_drew ?_ | refine blk_alloc ?_ _)); exact BK120.out) hb); have n2_ := Aside0.mk (below_step (by repeat (first | (with_reducible first | exact HB.out | apply below_alloc | apply pw_below_drewN | apply below_drew1 | refine below_set ?_ GE119.out | refine below_set ?_ GE120.out) | exact HB.out)) hb); clear BK119; clear BK120; clear HB; have BK119 := n0_; have BK120 := n1_; have HB := n2_; clear n0_ n1_ n2_; (try clear hb); (try clear hb2); (try clear hk); (try clear hi); have hcz34_0 : w33.cell? ⟨gb120, 0, none⟩ = some (.int .i64 0) := (blk_cell BK120.out 0).trans rfl; have hcz34_1 : w33.cell? ⟨gb120, 1, none⟩ = some (.slice none 0 0) := (blk_cell BK120.out 1).trans rfl; have hfz34_0 := blk_frozen BK120.out 0; have hfz34_1 := blk_frozen BK120.out 1))
    refine bodyPost_ret (results_ctt rfl _ _ gb120 24 #[.int .i64 0, .slice none 0 0] (0, 0) _ rfl (by (with_reducible repeat (first | refine blk_drewN ?_ _ | refine blk_drew ?_ | refine blk_alloc ?_ _)); refine blk_put (cs := #[.int .i64 0, .slice none 0 0]) ?_ 1 _ rfl; (with_reducible repeat (first | refine blk_drewN ?_ _ | refine blk_drew ?_ | refine blk_alloc ?_ _)); refine blk_put (cs := #[.int .i64 0, .slice none 0 0]) ?_ 0 _ rfl; (with_reducible repeat (first | refine blk_drewN ?_ _ | refine blk_drew ?_ | refine blk_alloc ?_ _)); exact BK120.out) Tryd.underlying24 rfl (by kernel_rfl)) rfl ?_
    exact ⟨_, by first | rfl | (simp [errW_none, errW_some] <;> rfl) | (simp [*, errW_none, errW_some] <;> rfl), by first | exact Kd.R_nil _ _ _ _ _ | exact Kd.N_nil _ _ _ _ _ | exact Kd.V_nil _ _ _ _ _ | exact Kd.Q_nil _ _ _ _ _ | exact Kd.S_nil _ _ _ _ _, by repeat (first | (with_reducible first | exact HB.out | apply below_alloc | apply pw_below_drewN | apply below_drew1 | refine below_set ?_ GE119.out | refine below_set ?_ GE120.out) | exact HB.out)⟩
def vivariumref02_Down.f (k : Nat) (a0_0 : Int) (l0_1 : List Int) (a1 : Bool) : Option (Int × List Int × Bool × Int) := (vivariumref02_Valid.f k a0_0 l0_1).bind fun t142 => (if t142 = true then ((vivariumref02_Bits.f k a0_0 l0_1).bind fun t143 => (if t143.length < 140737488355328 then ((some (t143 ++ [a1] : List Bool)).bind fun y146 => (if 1 ≤ (y146.length : Int) then ((vivariumref02_Row.f k (y146.drop 1)).bind fun bt153 => (if 0 < (y146.length : Int) then (some (bt153.1, bt153.2, rdOf false y146 0, 0)) else (none))) else (none))) else (none))) else (some (0, ([] : List Int), false, 20)))
def vivariumref02_Down.T4 : Bool × List (List Nat × List Nat) := (true, [([], []), ([0], [0]), ([1], [1]), ([], []), ([3], [3]), ([4], [4]), ([2, 2, 0, 1, 2], [2]), ([5, 6, 0, 1, 2, 3, 4, 5, 6], [5]), ([7, 0, 1, 2, 3, 4, 5, 6, 7], [])])
def vivariumref02_Down.B4 : List Nat := [0, 1, 3, 0, 8, 24, 7, 127, 255]
theorem vivariumref02_Down.tab4 : rtab .any (opsOf Tryd.f39 4) = vivariumref02_Down.T4 := by kernel_rfl
theorem vivariumref02_Down.bits4 : waitsOk vivariumref02_Down.T4.2 vivariumref02_Down.B4 = true := by kernel_rfl
set_option maxHeartbeats 8000000 in
set_option maxRecDepth 100000 in
theorem vivariumref02_Down.calls (k : Nat) (a0_0 : Int) (A0_1 : Option Addr) (c0_1 : Nat) (l0_1 : List Int) (a1 : Bool) (r1 : Int) (r2 : List Int) (r3 : Bool) (r4 : Int) (w : World) (hr0_1 : Kd.C (Kd.int .u64) w A0_1 l0_1.length l0_1) (hc0_1 : l0_1.length ≤ c0_1) (h : vivariumref02_Down.f k a0_0 l0_1 a1 = some (r1, r2, r3, r4)) :
    Calls Tryd.prog 39 #[.agg #[.int .i64 a0_0, .slice A0_1 l0_1.length c0_1], .bool a1] w fun e w' => ∃ v1_ : Value, e = .returned (.tuple #[.agg #[.int .i64 r1, v1_], .bool r3, .int .i64 r4]) ∧ Kd.R (Kd.int .u64) 58 w' w.heap.size (fun _ => True) v1_ r2 ∧ Below w.heap.size w w' := by
  have hu24 := Tryd.underlying24
  have HR0_1 := Aside0.mk hr0_1
  have HC0_1 := Aside0.mk hc0_1
  clear hr0_1 hc0_1
  have HB := Aside0.mk (Below.refl w.heap.size w)
  have H : ((vivariumref02_Valid.f k a0_0 l0_1).bind fun t142 => (if t142 = true then ((vivariumref02_Bits.f k a0_0 l0_1).bind fun t143 => (if t143.length < 140737488355328 then ((some (t143 ++ [a1] : List Bool)).bind fun y146 => (if 1 ≤ (y146.length : Int) then ((vivariumref02_Row.f k (y146.drop 1)).bind fun bt153 => (if 0 < (y146.length : Int) then (some (bt153.1, bt153.2, rdOf false y146 0, 0)) else (none))) else (none))) else (none))) else (some (0, ([] : List Int), false, 20)))) = some (r1, r2, r3, r4) := h
  clear h
  replace H := Option.bind_eq_some_iff.mp H
  obtain ⟨t142, A30, H⟩ := H
  replace H : (if t142 = true then ((vivariumref02_Bits.f k a0_0 l0_1).bind fun t143 => (if t143.length < 140737488355328 then ((some (t143 ++ [a1] : List Bool)).bind fun y146 => (if 1 ≤ (y146.length : Int) then ((vivariumref02_Row.f k (y146.drop 1)).bind fun bt153 => (if 0 < (y146.length : Int) then (some (bt153.1, bt153.2, rdOf false y146 0, 0)) else (none))) else (none))) else (none))) else (some (0, ([] : List Int), false, 20))) = some (r1, r2, r3, r4) := H
  have A3 := Aside0.mk A30
  clear A30
  by_cases c4 : t142 = true
  · subst c4
    have H1 : ((vivariumref02_Bits.f k a0_0 l0_1).bind fun t143 => (if t143.length < 140737488355328 then ((some (t143 ++ [a1] : List Bool)).bind fun y146 => (if 1 ≤ (y146.length : Int) then ((vivariumref02_Row.f k (y146.drop 1)).bind fun bt153 => (if 0 < (y146.length : Int) then (some (bt153.1, bt153.2, rdOf false y146 0, 0)) else (none))) else (none))) else (none))) = some (r1, r2, r3, r4) := by rw [if_pos rfl] at H; exact H
    clear H
    have H := H1
    clear H1
    replace H := Option.bind_eq_some_iff.mp H
    obtain ⟨t143, A50, H⟩ := H
    replace H : (if t143.length < 140737488355328 then ((some (t143 ++ [a1] : List Bool)).bind fun y146 => (if 1 ≤ (y146.length : Int) then ((vivariumref02_Row.f k (y146.drop 1)).bind fun bt153 => (if 0 < (y146.length : Int) then (some (bt153.1, bt153.2, rdOf false y146 0, 0)) else (none))) else (none))) else (none)) = some (r1, r2, r3, r4) := H
    have A5 := Aside0.mk A50
    clear A50
    by_cases c6 : t143.length < 140737488355328
    · rw [if_pos c6] at H
      have LMc6 := Aside0.mk c6
      clear c6
      obtain ⟨y146, hy146⟩ : ∃ y_ : List Bool, y_ = (t143 ++ [a1]) := ⟨_, rfl⟩
      replace H : (if 1 ≤ (y146.length : Int) then ((vivariumref02_Row.f k (y146.drop 1)).bind fun bt153 => (if 0 < (y146.length : Int) then (some (bt153.1, bt153.2, rdOf false y146 0, 0)) else (none))) else (none)) = some (r1, r2, r3, r4) := by first | (rw [hy146]; with_reducible exact H) | (have H2_ := (Option.bind_some _ _).symm.trans H; rw [hy146]; with_reducible exact H2_) | (have H2_ := (Option.bind_some _ _).symm.trans H; with_reducible exact H2_) | with_reducible exact H | (rw [hy146]; exact H) | exact H
      have Ny146 := Aside0.mk hy146
      clear hy146
      by_cases c7 : 1 ≤ (y146.length : Int)
      · rw [if_pos c7] at H
        have c7b0 := eq_true c7
        have c7b1 : decide (1 ≤ (y146.length : Int)) = true := decide_eq_true c7
        clear c7
        obtain ⟨y149, hy149⟩ : ∃ y_ : List Bool, y_ = (y146.drop 1) := ⟨_, rfl⟩
        replace H : ((vivariumref02_Row.f k y149).bind fun bt153 => (if 0 < (y146.length : Int) then (some (bt153.1, bt153.2, rdOf false y146 0, 0)) else (none))) = some (r1, r2, r3, r4) := by first | (rw [hy149]; with_reducible exact H) | (have H2_ := (Option.bind_some _ _).symm.trans H; rw [hy149]; with_reducible exact H2_) | (have H2_ := (Option.bind_some _ _).symm.trans H; with_reducible exact H2_) | with_reducible exact H | (rw [hy149]; exact H) | exact H
        have Ny149 := Aside0.mk hy149
        clear hy149
        replace H := Option.bind_eq_some_iff.mp H
        obtain ⟨⟨t153, t154⟩, A80, H⟩ := H
        replace H : (if 0 < (y146.length : Int) then (some (t153, t154, rdOf false y146 0, 0)) else (none)) = some (r1, r2, r3, r4) := H
        have A8 := Aside0.mk A80
        clear A80
        by_cases c9 : 0 < (y146.length : Int)
        · rw [if_pos c9] at H
          have c9b0 : decide (0 < (y146.length : Int)) = true := decide_eq_true c9
          have c9b1 : decide (0 < y146.length) = true := decide_eq_true (by omega)
          clear c9
          simp only [Option.some.injEq, Prod.mk.injEq] at H
          obtain ⟨rfl, rfl, rfl, rfl⟩ := H
          go_enter Tryd.func39, Tryd.ntmps39
          try go_wp2_with (first | ((with_reducible refine gate_dst (N := 2) rfl ?_); refine box_event ?hg (N := 2) ?hd (cs := #[.int .i64 a0_0, .slice A0_1 l0_1.length c0_1]) (t := 24) ?hr ?_; (case hd => rfl); (case hg => rfl); (case hr => first | (go_simp; done) | (go_simp; rfl)); intro gb140 hg w10 hbox hb; have n0_ := Aside0.mk (below_step (by repeat (first | (with_reducible first | exact HB.out | apply below_alloc | apply pw_below_drewN | apply below_drew1) | exact HB.out)) hb); have n1_ := Aside0.mk (hbox); have n2_ := Aside0.mk ((by rw [hg]; exact (below_size (by repeat (first | (with_reducible first | exact HB.out | apply below_alloc | apply pw_below_drewN | apply below_drew1) | exact HB.out))) : w.heap.size ≤ gb140)); have n3_ := Aside0.mk ((by rw [hg]; exact (below_size (by repeat (first | (with_reducible first | exact HB.out | apply below_alloc | apply pw_below_drewN | apply below_drew1) | exact HB.out))) : w.heap.size ≤ gb140)); clear HB; have HB := n0_; have BK140 := n1_; have GW140 := n2_; have GE140 := n3_; clear n0_ n1_ n2_ n3_; clear hb hbox hg) | ((with_reducible refine gate_dst (N := 4) rfl ?_); refine box_event ?hg (N := 4) ?hd (cs := #[.int .i64 0, .slice none 0 0]) (t := 24) ?hr ?_; (case hd => rfl); (case hg => rfl); (case hr => first | (go_simp; done) | (go_simp; rfl)); intro gb141 hg w11 hbox hb; have n0_ := Aside0.mk (blk_below (g := gb140) (o := .cells #[.int .i64 a0_0, .slice A0_1 l0_1.length c0_1] 24 (0, 0)) (by (with_reducible repeat (first | refine blk_drewN ?_ _ | refine blk_drew ?_ | refine blk_alloc ?_ _)); exact BK140.out) hb); have n1_ := Aside0.mk (below_step (by repeat (first | (with_reducible first | exact HB.out | apply below_alloc | apply pw_below_drewN | apply below_drew1 | refine below_set ?_ GE140.out) | exact HB.out)) hb); have n2_ := Aside0.mk (hbox); have n3_ := Aside0.mk ((by rw [hg]; exact (below_size (by repeat (first | (with_reducible first | exact HB.out | apply below_alloc | apply pw_below_drewN | apply below_drew1 | refine below_set ?_ GE140.out) | exact HB.out))) : w.heap.size ≤ gb141)); have n4_ := Aside0.mk ((by rw [hg]; exact (below_size (by repeat (first | (with_reducible first | exact HB.out | apply below_alloc | apply pw_below_drewN | apply below_drew1 | refine below_set ?_ GE140.out) | exact HB.out))) : w.heap.size ≤ gb141)); have n5_ := Aside0.mk ((by rw [hg]; exact Nat.ne_of_lt (blk_lt (g := gb140) (o := .cells #[.int .i64 a0_0, .slice A0_1 l0_1.length c0_1] 24 (0, 0)) (by (with_reducible repeat (first | refine blk_drewN ?_ _ | refine blk_drew ?_ | refine blk_alloc ?_ _)); exact BK140.out)) : gb140 ≠ gb141)); have n6_ := Aside0.mk ((by rw [hg]; exact Nat.ne_of_gt (blk_lt (g := gb140) (o := .cells #[.int .i64 a0_0, .slice A0_1 l0_1.length c0_1] 24 (0, 0)) (by (with_reducible repeat (first | refine blk_drewN ?_ _ | refine blk_drew ?_ | refine blk_alloc ?_ _)); exact BK140.out)) : gb141 ≠ gb140)); clear BK140; clear HB; have BK140 := n0_; have HB := n1_; have BK141 := n2_; have GW141 := n3_; have GE141 := n4_; have NB140_141 := n5_; have NB141_140 := n6_; clear n0_ n1_ n2_ n3_ n4_ n5_ n6_; clear hb hbox hg; have hnb12 := NB140_141.out; have hnc12 := NB141_140.out; have hcz13_0 : w11.cell? ⟨gb140, 0, none⟩ = some (.int .i64 a0_0) := (blk_cell BK140.out 0).trans rfl; have hcz13_1 : w11.cell? ⟨gb140, 1, none⟩ = some (.slice A0_1 l0_1.length c0_1) := (blk_cell BK140.out 1).trans rfl; have hfz13_0 := blk_frozen BK140.out 0; have hfz13_1 := blk_frozen BK140.out 1) | ((with_reducible refine gate_callee (f := 28) rfl ?_); refine goesL_ (some 9) rfl rfl Tryd.func28 (by kernel_rfl) rfl #[.agg #[.int .i64 a0_0, .slice A0_1 l0_1.length c0_1]] rfl (by (try simp only [List.map_toArray, List.map_cons, List.map_nil]); first | done | rfl | (simp only [List.length_drop, List.length_take]; rfl)) ?_; (with_reducible refine (vivariumref02_Valid.calls k a0_0 _ _ l0_1 true _ ?side1 ?side2 A3.out).mono ?_); (case side1 => repeat (first | exact (Kd.C_below HR0_1.out HB.out) | (with_reducible refine Kd.C_alloc ?_ _) | (with_reducible refine Kd.C_drewN ?_ _) | (with_reducible refine Kd.C_drew ?_))); (case side2 => exact HC0_1.out); rintro e w14 ⟨rfl, hb⟩; refine ⟨_, rfl, ?_⟩; have n0_ := Aside0.mk (blk_below (g := gb140) (o := .cells #[.int .i64 a0_0, .slice A0_1 l0_1.length c0_1] 24 (0, 0)) (by (with_reducible repeat (first | refine blk_drewN ?_ _ | refine blk_drew ?_ | refine blk_alloc ?_ _)); exact BK140.out) hb); have n1_ := Aside0.mk (blk_below (g := gb141) (o := .cells #[.int .i64 0, .slice none 0 0] 24 (0, 0)) (by (with_reducible repeat (first | refine blk_drewN ?_ _ | refine blk_drew ?_ | refine blk_alloc ?_ _)); exact BK141.out) hb); have n2_ := Aside0.mk (below_step (by repeat (first | (with_reducible first | exact HB.out | apply below_alloc | apply pw_below_drewN | apply below_drew1 | refine below_set ?_ GE140.out | refine below_set ?_ GE141.out) | exact HB.out)) hb); clear BK140; clear BK141; clear HB; have BK140 := n0_; have BK141 := n1_; have HB := n2_; clear n0_ n1_ n2_; (try clear hb); (try clear hb2); (try clear hk); (try clear hi); have hcz15_0 : w14.cell? ⟨gb140, 0, none⟩ = some (.int .i64 a0_0) := (blk_cell BK140.out 0).trans rfl; have hcz15_1 : w14.cell? ⟨gb140, 1, none⟩ = some (.slice A0_1 l0_1.length c0_1) := (blk_cell BK140.out 1).trans rfl; have hfz15_0 := blk_frozen BK140.out 0; have hfz15_1 := blk_frozen BK140.out 1) | ((with_reducible refine gate_callee (f := 43) rfl ?_); refine goesL_ (some 13) rfl rfl Tryd.func43 (by kernel_rfl) rfl #[.agg #[.int .i64 a0_0, .slice A0_1 l0_1.length c0_1]] rfl (by (try simp only [List.map_toArray, List.map_cons, List.map_nil]); first | done | rfl | (simp only [List.length_drop, List.length_take]; rfl)) ?_; (with_reducible refine (vivariumref02_Bits.calls k a0_0 _ _ l0_1 t143 _ ?side1 ?side2 A5.out).mono ?_); (case side1 => repeat (first | exact (Kd.C_below HR0_1.out HB.out) | (with_reducible refine Kd.C_alloc ?_ _) | (with_reducible refine Kd.C_drewN ?_ _) | (with_reducible refine Kd.C_drew ?_))); (case side2 => exact HC0_1.out); rintro e w16 ⟨v144, rfl, ho0, hb⟩; refine ⟨_, rfl, ?_⟩; have n0_ := Aside0.mk (Kd.R_lower ho0 (below_size (by repeat (first | (with_reducible first | exact HB.out | apply below_alloc | apply pw_below_drewN | apply below_drew1 | refine below_set ?_ GE140.out | refine below_set ?_ GE141.out) | exact HB.out)))); have n1_ := Aside0.mk (blk_below (g := gb140) (o := .cells #[.int .i64 a0_0, .slice A0_1 l0_1.length c0_1] 24 (0, 0)) (by (with_reducible repeat (first | refine blk_drewN ?_ _ | refine blk_drew ?_ | refine blk_alloc ?_ _)); exact BK140.out) hb); have n2_ := Aside0.mk (blk_below (g := gb141) (o := .cells #[.int .i64 0, .slice none 0 0] 24 (0, 0)) (by (with_reducible repeat (first | refine blk_drewN ?_ _ | refine blk_drew ?_ | refine blk_alloc ?_ _)); exact BK141.out) hb); have n3_ := Aside0.mk (below_step (by repeat (first | (with_reducible first | exact HB.out | apply below_alloc | apply pw_below_drewN | apply below_drew1 | refine below_set ?_ GE140.out | refine below_set ?_ GE141.out) | exact HB.out)) hb); clear BK140; clear BK141; clear HB; have HO145 := n0_; have BK140 := n1_; have BK141 := n2_; have HB := n3_; clear n0_ n1_ n2_ n3_; (try clear hb); (try clear hb2); (try clear hk); (try clear hi); (try clear ho0)) | ((with_reducible refine gate_builtin (b := .append) (xs := #[.tmp 13, .tmp 15]) rfl ?_); at_builtin; refine Kd.R_append Kd.bool (w0 := w) w.heap.size rfl (.tmp 13) (.tmp 15) 47 4 (.bool false) 1 rfl Tryd.underlying47 info4 rfl (by decide) (by omega) v144 t143 a1 [.bool a1] (fun _ => True) (fun _ => False) rfl rfl ?aP (fun _ hk => hk.elim) ?aF ?aO ?aB ?aS ?aL ?_; (case aP => exact rfl); (case aB => exact (by repeat (first | (with_reducible first | exact HB.out | apply below_alloc | apply pw_below_drewN | apply below_drew1 | refine below_set ?_ GE140.out | refine below_set ?_ GE141.out) | exact HB.out))); (case aF => exact (fun _ _ => trivial)); (case aO => exact (by (with_reducible repeat (first | apply Kd.R_alloc | apply Kd.R_drewN | apply Kd.R_drew)); exact HO145.out)); (case aS => exact (below_size (by repeat (first | (with_reducible first | exact HB.out | apply below_alloc | apply pw_below_drewN | apply below_drew1 | refine below_set ?_ GE140.out | refine below_set ?_ GE141.out) | exact HB.out)))); (case aL => have := LMc6.out; omega); intro v147 w17 ho hb hg hat; rw [← Ny146.out] at ho; have n0_ := Aside0.mk (blk_grown (g := gb140) (o := .cells #[.int .i64 a0_0, .slice A0_1 l0_1.length c0_1] 24 (0, 0)) (by (with_reducible repeat (first | refine blk_drewN ?_ _ | refine blk_drew ?_ | refine blk_alloc ?_ _)); exact BK140.out) hg (Kd.R_ne HO145.out BK140.out (by decide))); have n1_ := Aside0.mk (blk_grown (g := gb141) (o := .cells #[.int .i64 0, .slice none 0 0] 24 (0, 0)) (by (with_reducible repeat (first | refine blk_drewN ?_ _ | refine blk_drew ?_ | refine blk_alloc ?_ _)); exact BK141.out) hg (Kd.R_ne HO145.out BK141.out (by decide))); have n2_ := Aside0.mk (hb); have n3_ := Aside0.mk (ho); clear BK140; clear BK141; clear HB; clear HO145; have BK140 := n0_; have BK141 := n1_; have HB := n2_; have HO148 := n3_; clear n0_ n1_ n2_ n3_; clear ho hb hg hat))
          have n0_ := Aside0.mk (Kd.R_drew HO148.out)
          have n1_ := Aside0.mk (blk_drew BK140.out)
          have n2_ := Aside0.mk (blk_drew BK141.out)
          have n3_ := Aside0.mk (below_drew1 HB.out)
          clear HO148
          clear BK140
          clear BK141
          clear HB
          have HO148 := n0_
          have BK140 := n1_
          have BK141 := n2_
          have HB := n3_
          clear n0_ n1_ n2_ n3_
          obtain ⟨Ao20, co20, eo20⟩ := Kd.R_slice HO148.out
          (first | subst eo20 | (injection eo20 with f1_ f2_ f3_; have f4_ := f1_.symm; have f5_ := f3_.symm; clear f1_ f2_ f3_; subst f4_; subst f5_))
          have q19 : (1 : Int) ≤ ((y146.length : Int) : Int) := of_decide_eq_true (by first | (with_reducible assumption) | assumption)
          obtain ⟨i019, hi019, _, hsz19, _⟩ := info_parts info4
          have hroom19 : y146.length ≤ co20 := (Kd.R_reads' HO148.out).2.1
          have hC19 : Kd.C Kd.bool _ Ao20 y146.length y146 := (Kd.R_reads' HO148.out).2.2
          have hcut19 := cut_from (P := Tryd.prog) 47 4 .i64 Tryd.underlying47 hi019 1 hsz19 Ao20 y146.length co20 1 (by omega) q19
          have hr19 := Kd.C_drop (m := (1 : Int).toNat) (c := co20) hC19 (by omega) hroom19
          obtain ⟨A19, hA19⟩ : ∃ A1, A1 = (if co20 = (1 : Int).toNat then Ao20 else (Ao20 : Option Addr).map (·.add ((1 : Int).toNat * 1))) := ⟨_, rfl⟩
          obtain ⟨c19, hc19⟩ : ∃ c1, c1 = co20 - (1 : Int).toNat := ⟨_, rfl⟩
          have hy19 : y149.length = y146.length - (1 : Int).toNat := (by rw [Ny149.out, List.length_drop] <;> omega)
          rw [show (y146).drop (1 : Int).toNat = y149 from Ny149.out.symm] at hr19
          replace hr19 : Kd.C Kd.bool _ A19 y149.length y149 := (by rw [hA19]; exact hr19)
          rw [← hy19, ← hA19, ← hc19] at hcut19
          have HR152 := Aside0.mk hr19
          have HC152 := Aside0.mk (show y149.length ≤ c19 from by rw [hy19, hc19]; exact Nat.sub_le_sub_right hroom19 _)
          clear hr19 hC19 hroom19 hi019 hsz19 hc19
          have KY19 := Aside0.mk hy19
          have KA19 := Aside0.mk hA19
          clear hy19 hA19
          have KL19 := Aside0.mk (show 1 ≤ y146.length from by omega)
          replace q19 := eq_true q19
          have p157 : 0 ≤ (0 : Int) := (by omega)
          have q157 : 0 < (y146.length : Int) := of_decide_eq_true (by first | (with_reducible assumption) | assumption)
          obtain ⟨ad157, e157, hx157_0⟩ := Kd.at_bool (Kd.R_reads' HO148.out).2.2 0 p157 q157
          cases e157
          have qi157 : (0 < y146.length) = True := eq_true (by omega)
          (try rw [show ((0 : Int)).toNat = 0 from rfl] at hx157_0)
          (try rw [Addr.add_zero'] at hx157_0)
          replace p157 := eq_true p157
          replace q157 := eq_true q157
          refine start_ (n := 9) (S := fun w' => w'.cell? ad157 = some (.bool (rdOf false y146 0))) (ds := []) #[false, false, false, false, false, false, false, false, false] (by kernel_rfl) rfl rfl (hx157_0) (fun hHeld => ?_); refine with_tabW vivariumref02_Down.tab4 vivariumref02_Down.bits4 (fun HT_ HW_ => ?_)
          generalize w17.drew = w18 at HO148 BK140 BK141 HB HR152 hx157_0 hHeld ⊢
          refine pure_ (i := 0) (N := some 17) (v := ?_) (a' := ?_) #[true, false, false, false, false, false, false, false, false] rfl rfl (any_of HT_.out (by kernel_rfl)) (fun _ _ _ h => h) (Or.inl ⟨by rfl, ?_⟩) ?_ ?_
          rotate_left
          · intro w'
            go_simp
            with_reducible rfl
          rotate_left
          · simp only [Act.put, List.setIfInBounds_toArray, List.set_cons_zero, List.set_cons_succ, i64_w, i32_w]
            rfl
          refine pure_ (i := 1) (N := some 18) (v := ?_) (a' := ?_) #[true, true, false, false, false, false, false, false, false] rfl rfl (any_of HT_.out (by kernel_rfl)) (fun _ _ _ h => h) (Or.inl ⟨by rfl, ?_⟩) ?_ ?_
          rotate_left
          · intro w'
            go_simp
            with_reducible rfl
          rotate_left
          · simp only [Act.put, List.setIfInBounds_toArray, List.set_cons_zero, List.set_cons_succ, i64_w, i32_w]
            rfl
          refine pure_ (i := 3) (N := some 20) (v := ?_) (a' := ?_) #[true, true, false, true, false, false, false, false, false] rfl rfl (any_of HT_.out (by kernel_rfl)) (fun _ _ _ h => h) (Or.inl ⟨by rfl, ?_⟩) ?_ ?_
          rotate_left
          · intro w'
            go_simp
            with_reducible rfl
          rotate_left
          · simp only [Act.put, List.setIfInBounds_toArray, List.set_cons_zero, List.set_cons_succ, i64_w, i32_w]
            rfl
          refine pure_ (i := 4) (N := some 21) (v := ?_) (a' := ?_) #[true, true, false, true, true, false, false, false, false] rfl rfl (any_of HT_.out (by kernel_rfl)) (fun _ _ _ h => h) (Or.inl ⟨by rfl, ?_⟩) ?_ ?_
          rotate_left
          · intro w'
            go_simp
            with_reducible rfl
          rotate_left
          · simp only [Act.put, List.setIfInBounds_toArray, List.set_cons_zero, List.set_cons_succ, i64_w, i32_w]
            rfl
          refine take_ (i := 5) (N := some 22) (v := ?_) (a' := ?_) #[true, true, false, true, true, true, false, false, false] rfl rfl (take_ofW HT_.out HW_.out (by kernel_rfl)) (fun _ _ _ h => h) (Or.inl ⟨by rfl, ?_⟩) hHeld ?_ ?_
          rotate_left
          · intro w' s0
            go_simp
            with_reducible rfl
          rotate_left
          · simp only [Act.put, List.setIfInBounds_toArray, List.set_cons_zero, List.set_cons_succ, i64_w, i32_w]
            rfl
          refine one_ (i := 2) (N := some 19) #[true, true, true, true, true, true, false, false, false] rfl rfl (one_of HT_.out (by kernel_rfl)) (by decide) (fun K hK => ?_)
          refine goes_ Tryd.func44 (by kernel_rfl) rfl #[.slice A19 y149.length c19] (by rfl) rfl rfl (by (try simp only [List.map_toArray, List.map_cons, List.map_nil]); first | done | rfl | (simp only [List.length_drop, List.length_take]; rfl)) ?_
          with_reducible refine (vivariumref02_Row.calls k _ _ y149 t153 t154 _ ?side1 ?side2 A8.out).mono ?_
          (case side1 => repeat (first | exact (by repeat (first | (with_reducible exact HR152.out) | (with_reducible refine Kd.C_alloc ?_ _) | (with_reducible refine Kd.C_drewN ?_ _) | (with_reducible refine Kd.C_drew ?_) | exact HR152.out)) | (with_reducible refine Kd.C_alloc ?_ _) | (with_reducible refine Kd.C_drewN ?_ _) | (with_reducible refine Kd.C_drew ?_)))
          (case side2 => exact HC152.out)
          rintro e w21 ⟨v155, rfl, ho0, hb⟩
          have HS0_ := (hb.cell (World.block_lt_of_cell? _ _ (hHeld))).trans (hHeld)
          refine ⟨_, rfl, ?_⟩
          have n0_ := Aside0.mk (Kd.R_below (by (with_reducible repeat (first | apply Kd.R_alloc | apply Kd.R_drewN | apply Kd.R_drew)); exact HO148.out) hb)
          have n1_ := Aside0.mk (Kd.R_lower ho0 (below_size (by repeat (first | (with_reducible first | exact HB.out | apply below_alloc | apply pw_below_drewN | apply below_drew1 | refine below_set ?_ GE140.out | refine below_set ?_ GE141.out) | exact HB.out))))
          have n2_ := Aside0.mk (blk_below (g := gb140) (o := .cells #[.int .i64 a0_0, .slice A0_1 l0_1.length c0_1] 24 (0, 0)) (by (with_reducible repeat (first | refine blk_drewN ?_ _ | refine blk_drew ?_ | refine blk_alloc ?_ _)); exact BK140.out) hb)
          have n3_ := Aside0.mk (blk_below (g := gb141) (o := .cells #[.int .i64 0, .slice none 0 0] 24 (0, 0)) (by (with_reducible repeat (first | refine blk_drewN ?_ _ | refine blk_drew ?_ | refine blk_alloc ?_ _)); exact BK141.out) hb)
          have n4_ := Aside0.mk (Kd.C_below (by repeat (first | (with_reducible exact HR152.out) | (with_reducible refine Kd.C_alloc ?_ _) | (with_reducible refine Kd.C_drewN ?_ _) | (with_reducible refine Kd.C_drew ?_) | exact HR152.out)) hb)
          have n5_ := Aside0.mk (below_step (by repeat (first | (with_reducible first | exact HB.out | apply below_alloc | apply pw_below_drewN | apply below_drew1 | refine below_set ?_ GE140.out | refine below_set ?_ GE141.out) | exact HB.out)) hb)
          clear HO148
          clear BK140
          clear BK141
          clear HR152
          clear HB
          have HO148 := n0_
          have HO156 := n1_
          have BK140 := n2_
          have BK141 := n3_
          have HR152 := n4_
          have HB := n5_
          clear n0_ n1_ n2_ n3_ n4_ n5_
          (try clear hb)
          (try clear hb2)
          (try clear hk)
          (try clear hi)
          (try clear ho0)
          obtain ⟨Ao23, co23, eo23⟩ := Kd.R_slice HO156.out
          (first | subst eo23 | (injection eo23 with f1_ f2_ f3_; have f4_ := f1_.symm; have f5_ := f3_.symm; clear f1_ f2_ f3_; subst f4_; subst f5_))
          refine hK.out _ _ (HS0_) (fun hHeld => ?_)
          clear hK K
          refine norm_ (a' := ?_) ?_ ?_
          rotate_left
          · show Act.put _ (some 19) _ = _
            simp only [Act.put, List.setIfInBounds_toArray, List.set_cons_zero, List.set_cons_succ, i64_w, i32_w]
            rfl
          refine one_ (i := 6) (N := none) #[true, true, true, true, true, true, true, false, false] rfl rfl (one_of HT_.out (by kernel_rfl)) (by decide) (fun K hK => ?_)
          have hs22 : w21.cell? ⟨gb141, 0, none⟩ = some (.int .i64 0) := (blk_cell BK141.out 0).trans rfl
          have hfs22 := blk_frozen BK141.out 0
          have hns22_0 := NB140_141.out
          have hms22_0 := NB141_140.out
          have hs24 : w21.cell? ⟨gb141, 1, none⟩ = some (.slice none 0 0) := (blk_cell BK141.out 1).trans rfl
          have hfs24 := blk_frozen BK141.out 1
          have hns24_0 := NB140_141.out
          have hms24_0 := NB141_140.out
          refine skip_ (w1 := ?_) (by rfl) rfl ?_ ?_
          rotate_left
          · go_simp
            rfl
          refine hK.out _ _ (((cell_far (p := ⟨gb141, _, none⟩) (by first | exact Kd.own_blk (Kd.R_ne HO148.out BK141.out (by decide)) | (rw [add_block]; exact Kd.own_blk (Kd.R_ne HO148.out BK141.out (by decide))) | (show (Addr.add _ _).block ≠ _; rw [add_block]; exact Kd.own_blk (Kd.R_ne HO148.out BK141.out (by decide))) | (dsimp only; exact Kd.own_blk (Kd.R_ne HO148.out BK141.out (by decide)))) _).trans (((cell_far (p := ⟨gb141, _, none⟩) (by first | exact Kd.own_blk (Kd.R_ne HO148.out BK141.out (by decide)) | (rw [add_block]; exact Kd.own_blk (Kd.R_ne HO148.out BK141.out (by decide))) | (show (Addr.add _ _).block ≠ _; rw [add_block]; exact Kd.own_blk (Kd.R_ne HO148.out BK141.out (by decide))) | (dsimp only; exact Kd.own_blk (Kd.R_ne HO148.out BK141.out (by decide)))) _).trans (hHeld))))) (fun hHeld => ?_)
          clear hK K
          refine pure_ (i := 7) (N := some 5) (v := ?_) (a' := ?_) #[true, true, true, true, true, true, true, true, false] rfl rfl (any_of HT_.out (by kernel_rfl)) (fun _ _ _ h => h) (Or.inl ⟨by rfl, ?_⟩) ?_ ?_
          rotate_left
          · intro w'
            go_simp
            with_reducible rfl
          rotate_left
          · simp only [Act.put, List.setIfInBounds_toArray, List.set_cons_zero, List.set_cons_succ, i64_w, i32_w]
            rfl
          refine pure_ (i := 8) (N := some 6) (v := ?_) (a' := ?_) #[true, true, true, true, true, true, true, true, true] rfl rfl (any_of HT_.out (by kernel_rfl)) (fun _ _ _ h => h) (Or.inl ⟨by rfl, ?_⟩) ?_ ?_
          rotate_left
          · intro w'
            go_simp
            with_reducible rfl
          rotate_left
          · simp only [Act.put, List.setIfInBounds_toArray, List.set_cons_zero, List.set_cons_succ, i64_w, i32_w]
            rfl
          refine done_ (done_of HT_.out (by kernel_rfl)) ?_
          try go_wp2
          refine bodyPost_ret (results_ctt rfl _ _ gb141 24 #[.int .i64 t153, .slice Ao23 t154.length co23] (0, 0) _ rfl (by (with_reducible repeat (first | refine blk_drewN ?_ _ | refine blk_drew ?_ | refine blk_alloc ?_ _)); refine blk_put (cs := #[.int .i64 t153, .slice none 0 0]) ?_ 1 _ rfl; (with_reducible repeat (first | refine blk_drewN ?_ _ | refine blk_drew ?_ | refine blk_alloc ?_ _)); refine blk_put (cs := #[.int .i64 0, .slice none 0 0]) ?_ 0 _ rfl; (with_reducible repeat (first | refine blk_drewN ?_ _ | refine blk_drew ?_ | refine blk_alloc ?_ _)); exact BK141.out) Tryd.underlying24 rfl (by kernel_rfl)) rfl ?_
          exact ⟨_, by first | rfl | (simp [errW_none, errW_some] <;> rfl) | (simp [*, errW_none, errW_some] <;> rfl), by (with_reducible repeat (first | apply Kd.R_alloc | apply Kd.R_drewN | apply Kd.R_drew)); exact Kd.R_mono (Kd.R_far (p := ⟨gb141, 1, none⟩) (Kd.R_far (p := ⟨gb141, 0, none⟩) (Kd.R_types HO156.out BK141.out (by decide)) (fun _ hk => hk.2) (.int .i64 t153)) (fun _ hk => hk.2) (.slice Ao23 t154.length co23)) (fun _ hk => trivial), by repeat (first | (with_reducible first | exact HB.out | apply below_alloc | apply pw_below_drewN | apply below_drew1 | refine below_set ?_ GE140.out | refine below_set ?_ GE141.out) | exact HB.out)⟩
        · rw [if_neg c9] at H
          exact absurd H (by simp)
      · rw [if_neg c7] at H
        exact absurd H (by simp)
    · rw [if_neg c6] at H
      exact absurd H (by simp)
  · replace c4 := Bool.eq_false_iff.mpr c4
    subst c4
    have H1 : (some (0, ([] : List Int), false, 20)) = some (r1, r2, r3, r4) := by rw [if_neg (show ¬ (false = true) by decide)] at H; exact H
    clear H
    have H := H1
    clear H1
    simp only [Option.some.injEq, Prod.mk.injEq] at H
    obtain ⟨rfl, rfl, rfl, rfl⟩ := H
    go_enter Tryd.func39, Tryd.ntmps39
    go_wp2_with (first | ((with_reducible refine gate_dst (N := 2) rfl ?_); refine box_event ?hg (N := 2) ?hd (cs := #[.int .i64 a0_0, .slice A0_1 l0_1.length c0_1]) (t := 24) ?hr ?_; (case hd => rfl); (case hg => rfl); (case hr => first | (go_simp; done) | (go_simp; rfl)); intro gb140 hg w25 hbox hb; have n0_ := Aside0.mk (below_step (by repeat (first | (with_reducible first | exact HB.out | apply below_alloc | apply pw_below_drewN | apply below_drew1) | exact HB.out)) hb); have n1_ := Aside0.mk (hbox); have n2_ := Aside0.mk ((by rw [hg]; exact (below_size (by repeat (first | (with_reducible first | exact HB.out | apply below_alloc | apply pw_below_drewN | apply below_drew1) | exact HB.out))) : w.heap.size ≤ gb140)); have n3_ := Aside0.mk ((by rw [hg]; exact (below_size (by repeat (first | (with_reducible first | exact HB.out | apply below_alloc | apply pw_below_drewN | apply below_drew1) | exact HB.out))) : w.heap.size ≤ gb140)); clear HB; have HB := n0_; have BK140 := n1_; have GW140 := n2_; have GE140 := n3_; clear n0_ n1_ n2_ n3_; clear hb hbox hg) | ((with_reducible refine gate_dst (N := 4) rfl ?_); refine box_event ?hg (N := 4) ?hd (cs := #[.int .i64 0, .slice none 0 0]) (t := 24) ?hr ?_; (case hd => rfl); (case hg => rfl); (case hr => first | (go_simp; done) | (go_simp; rfl)); intro gb141 hg w26 hbox hb; have n0_ := Aside0.mk (blk_below (g := gb140) (o := .cells #[.int .i64 a0_0, .slice A0_1 l0_1.length c0_1] 24 (0, 0)) (by (with_reducible repeat (first | refine blk_drewN ?_ _ | refine blk_drew ?_ | refine blk_alloc ?_ _)); exact BK140.out) hb); have n1_ := Aside0.mk (below_step (by repeat (first | (with_reducible first | exact HB.out | apply below_alloc | apply pw_below_drewN | apply below_drew1 | refine below_set ?_ GE140.out) | exact HB.out)) hb); have n2_ := Aside0.mk (hbox); have n3_ := Aside0.mk ((by rw [hg]; exact (below_size (by repeat (first | (with_reducible first | exact HB.out | apply below_alloc | apply pw_below_drewN | apply below_drew1 | refine below_set ?_ GE140.out) | exact HB.out))) : w.heap.size ≤ gb141)); have n4_ := Aside0.mk ((by rw [hg]; exact (below_size (by repeat (first | (with_reducible first | exact HB.out | apply below_alloc | apply pw_below_drewN | apply below_drew1 | refine below_set ?_ GE140.out) | exact HB.out))) : w.heap.size ≤ gb141)); have n5_ := Aside0.mk ((by rw [hg]; exact Nat.ne_of_lt (blk_lt (g := gb140) (o := .cells #[.int .i64 a0_0, .slice A0_1 l0_1.length c0_1] 24 (0, 0)) (by (with_reducible repeat (first | refine blk_drewN ?_ _ | refine blk_drew ?_ | refine blk_alloc ?_ _)); exact BK140.out)) : gb140 ≠ gb141)); have n6_ := Aside0.mk ((by rw [hg]; exact Nat.ne_of_gt (blk_lt (g := gb140) (o := .cells #[.int .i64 a0_0, .slice A0_1 l0_1.length c0_1] 24 (0, 0)) (by (with_reducible repeat (first | refine blk_drewN ?_ _ | refine blk_drew ?_ | refine blk_alloc ?_ _)); exact BK140.out)) : gb141 ≠ gb140)); clear BK140; clear HB; have BK140 := n0_; have HB := n1_; have BK141 := n2_; have GW141 := n3_; have GE141 := n4_; have NB140_141 := n5_; have NB141_140 := n6_; clear n0_ n1_ n2_ n3_ n4_ n5_ n6_; clear hb hbox hg; have hnb27 := NB140_141.out; have hnc27 := NB141_140.out; have hcz28_0 : w26.cell? ⟨gb140, 0, none⟩ = some (.int .i64 a0_0) := (blk_cell BK140.out 0).trans rfl; have hcz28_1 : w26.cell? ⟨gb140, 1, none⟩ = some (.slice A0_1 l0_1.length c0_1) := (blk_cell BK140.out 1).trans rfl; have hfz28_0 := blk_frozen BK140.out 0; have hfz28_1 := blk_frozen BK140.out 1) | ((with_reducible refine gate_callee (f := 28) rfl ?_); refine goesL_ (some 9) rfl rfl Tryd.func28 (by kernel_rfl) rfl #[.agg #[.int .i64 a0_0, .slice A0_1 l0_1.length c0_1]] rfl (by (try simp only [List.map_toArray, List.map_cons, List.map_nil]); first | done | rfl | (simp only [List.length_drop, List.length_take]; rfl)) ?_; (with_reducible refine (vivariumref02_Valid.calls k a0_0 _ _ l0_1 false _ ?side1 ?side2 A3.out).mono ?_); (case side1 => repeat (first | exact (Kd.C_below HR0_1.out HB.out) | (with_reducible refine Kd.C_alloc ?_ _) | (with_reducible refine Kd.C_drewN ?_ _) | (with_reducible refine Kd.C_drew ?_))); (case side2 => exact HC0_1.out); rintro e w29 ⟨rfl, hb⟩; refine ⟨_, rfl, ?_⟩; have n0_ := Aside0.mk (blk_below (g := gb140) (o := .cells #[.int .i64 a0_0, .slice A0_1 l0_1.length c0_1] 24 (0, 0)) (by (with_reducible repeat (first | refine blk_drewN ?_ _ | refine blk_drew ?_ | refine blk_alloc ?_ _)); exact BK140.out) hb); have n1_ := Aside0.mk (blk_below (g := gb141) (o := .cells #[.int .i64 0, .slice none 0 0] 24 (0, 0)) (by (with_reducible repeat (first | refine blk_drewN ?_ _ | refine blk_drew ?_ | refine blk_alloc ?_ _)); exact BK141.out) hb); have n2_ := Aside0.mk (below_step (by repeat (first | (with_reducible first | exact HB.out | apply below_alloc | apply pw_below_drewN | apply below_drew1 | refine below_set ?_ GE140.out | refine below_set ?_ GE141.out) | exact HB.out)) hb); clear BK140; clear BK141; clear HB; have BK140 := n0_; have BK141 := n1_; have HB := n2_; clear n0_ n1_ n2_; (try clear hb); (try clear hb2); (try clear hk); (try clear hi); have hcz30_0 : w29.cell? ⟨gb141, 0, none⟩ = some (.int .i64 0) := (blk_cell BK141.out 0).trans rfl; have hcz30_1 : w29.cell? ⟨gb141, 1, none⟩ = some (.slice none 0 0) := (blk_cell BK141.out 1).trans rfl; have hfz30_0 := blk_frozen BK141.out 0; have hfz30_1 := blk_frozen BK141.out 1))
    refine bodyPost_ret (results_ctt rfl _ _ gb141 24 #[.int .i64 0, .slice none 0 0] (0, 0) _ rfl (by (with_reducible repeat (first | refine blk_drewN ?_ _ | refine blk_drew ?_ | refine blk_alloc ?_ _)); refine blk_put (cs := #[.int .i64 0, .slice none 0 0]) ?_ 1 _ rfl; (with_reducible repeat (first | refine blk_drewN ?_ _ | refine blk_drew ?_ | refine blk_alloc ?_ _)); refine blk_put (cs := #[.int .i64 0, .slice none 0 0]) ?_ 0 _ rfl; (with_reducible repeat (first | refine blk_drewN ?_ _ | refine blk_drew ?_ | refine blk_alloc ?_ _)); exact BK141.out) Tryd.underlying24 rfl (by kernel_rfl)) rfl ?_
    exact ⟨_, by first | rfl | (simp [errW_none, errW_some] <;> rfl) | (simp [*, errW_none, errW_some] <;> rfl), by first | exact Kd.R_nil _ _ _ _ _ | exact Kd.N_nil _ _ _ _ _ | exact Kd.V_nil _ _ _ _ _ | exact Kd.Q_nil _ _ _ _ _ | exact Kd.S_nil _ _ _ _ _, by repeat (first | (with_reducible first | exact HB.out | apply below_alloc | apply pw_below_drewN | apply below_drew1 | refine below_set ?_ GE140.out | refine below_set ?_ GE141.out) | exact HB.out)⟩
def vivariumref02_Turned.l0 : Nat → List Bool → List Bool → Int → Option (Int × List Int × Int)
  | 0, _, _, _ => none
  | k + 1, x4, x5, x6 => if x6 < (x4.length : Int) then (if 0 ≤ (wrap64 ((wrap64 ((x4.length : Int) - 1)) - x6)) then (if (wrap64 ((wrap64 ((x4.length : Int) - 1)) - x6)) < (x4.length : Int) then (if 0 ≤ x6 then (if x6 < (x5.length : Int) then (vivariumref02_Turned.l0 k x4 (x5.set (x6 : Int).toNat (rdOf false x4 (wrap64 ((wrap64 ((x4.length : Int) - 1)) - x6)))) (wrap64 (x6 + 1))) else (none)) else (none)) else (none)) else (none)) else ((vivariumref02_Row.f k x5).bind fun bt169 => (some (bt169.1, bt169.2, 0)))
def vivariumref02_Turned.f (k : Nat) (a0_0 : Int) (l0_1 : List Int) : Option (Int × List Int × Int) := (vivariumref02_Valid.f k a0_0 l0_1).bind fun t160 => (if t160 = true then ((vivariumref02_Bits.f k a0_0 l0_1).bind fun t161 => (if 0 ≤ (t161.length : Int) then (if ((t161.length : Int) : Int).toNat ≤ 281474976710656 then (vivariumref02_Turned.l0 k t161 (List.replicate ((t161.length : Int) : Int).toNat false) 0) else (none)) else (none))) else (some (0, ([] : List Int), 20)))
set_option maxHeartbeats 8000000 in
set_option maxRecDepth 100000 in
theorem vivariumref02_Turned.calls (k : Nat) (a0_0 : Int) (A0_1 : Option Addr) (c0_1 : Nat) (l0_1 : List Int) (r1 : Int) (r2 : List Int) (r3 : Int) (w : World) (hr0_1 : Kd.C (Kd.int .u64) w A0_1 l0_1.length l0_1) (hc0_1 : l0_1.length ≤ c0_1) (h : vivariumref02_Turned.f k a0_0 l0_1 = some (r1, r2, r3)) :
    Calls Tryd.prog 40 #[.agg #[.int .i64 a0_0, .slice A0_1 l0_1.length c0_1]] w fun e w' => ∃ v1_ : Value, e = .returned (.tuple #[.agg #[.int .i64 r1, v1_], .int .i64 r3]) ∧ Kd.R (Kd.int .u64) 58 w' w.heap.size (fun _ => True) v1_ r2 ∧ Below w.heap.size w w' := by
  have hu24 := Tryd.underlying24
  have HR0_1 := Aside0.mk hr0_1
  have HC0_1 := Aside0.mk hc0_1
  clear hr0_1 hc0_1
  have HB := Aside0.mk (Below.refl w.heap.size w)
  have H : ((vivariumref02_Valid.f k a0_0 l0_1).bind fun t160 => (if t160 = true then ((vivariumref02_Bits.f k a0_0 l0_1).bind fun t161 => (if 0 ≤ (t161.length : Int) then (if ((t161.length : Int) : Int).toNat ≤ 281474976710656 then (vivariumref02_Turned.l0 k t161 (List.replicate ((t161.length : Int) : Int).toNat false) 0) else (none)) else (none))) else (some (0, ([] : List Int), 20)))) = some (r1, r2, r3) := h
  clear h
  replace H := Option.bind_eq_some_iff.mp H
  obtain ⟨t160, A20, H⟩ := H
  replace H : (if t160 = true then ((vivariumref02_Bits.f k a0_0 l0_1).bind fun t161 => (if 0 ≤ (t161.length : Int) then (if ((t161.length : Int) : Int).toNat ≤ 281474976710656 then (vivariumref02_Turned.l0 k t161 (List.replicate ((t161.length : Int) : Int).toNat false) 0) else (none)) else (none))) else (some (0, ([] : List Int), 20))) = some (r1, r2, r3) := H
  have A2 := Aside0.mk A20
  clear A20
  by_cases c3 : t160 = true
  · subst c3
    have H1 : ((vivariumref02_Bits.f k a0_0 l0_1).bind fun t161 => (if 0 ≤ (t161.length : Int) then (if ((t161.length : Int) : Int).toNat ≤ 281474976710656 then (vivariumref02_Turned.l0 k t161 (List.replicate ((t161.length : Int) : Int).toNat false) 0) else (none)) else (none))) = some (r1, r2, r3) := by rw [if_pos rfl] at H; exact H
    clear H
    have H := H1
    clear H1
    replace H := Option.bind_eq_some_iff.mp H
    obtain ⟨t161, A40, H⟩ := H
    replace H : (if 0 ≤ (t161.length : Int) then (if ((t161.length : Int) : Int).toNat ≤ 281474976710656 then (vivariumref02_Turned.l0 k t161 (List.replicate ((t161.length : Int) : Int).toNat false) 0) else (none)) else (none)) = some (r1, r2, r3) := H
    have A4 := Aside0.mk A40
    clear A40
    by_cases c5 : 0 ≤ (t161.length : Int)
    · rw [if_pos c5] at H
      have c5b0 := eq_true c5
      have c5b1 : decide (0 ≤ (t161.length : Int)) = true := decide_eq_true c5
      clear c5
      by_cases c6 : ((t161.length : Int) : Int).toNat ≤ 281474976710656
      · rw [if_pos c6] at H
        have c6b0 := eq_true c6
        have c6b1 : decide (((t161.length : Int) : Int).toNat ≤ 281474976710656) = true := decide_eq_true c6
        clear c6
        obtain ⟨y164, hy164⟩ : ∃ y_ : List Bool, y_ = (List.replicate ((t161.length : Int) : Int).toNat false) := ⟨_, rfl⟩
        replace H : (vivariumref02_Turned.l0 k t161 y164 0) = some (r1, r2, r3) := by first | (rw [hy164]; with_reducible exact H) | (have H2_ := (Option.bind_some _ _).symm.trans H; rw [hy164]; with_reducible exact H2_) | (have H2_ := (Option.bind_some _ _).symm.trans H; with_reducible exact H2_) | with_reducible exact H | (rw [hy164]; exact H) | exact H
        have Ny164 := Aside0.mk hy164
        clear hy164
        have H' := Aside0.mk H
        clear H
        go_enter Tryd.func40, Tryd.ntmps40
        go_wp2_with (first | ((with_reducible refine gate_dst (N := 1) rfl ?_); refine box_event ?hg (N := 1) ?hd (cs := #[.int .i64 a0_0, .slice A0_1 l0_1.length c0_1]) (t := 24) ?hr ?_; (case hd => rfl); (case hg => rfl); (case hr => first | (go_simp; done) | (go_simp; rfl)); intro gb158 hg w7 hbox hb; have n0_ := Aside0.mk (below_step (by repeat (first | (with_reducible first | exact HB.out | apply below_alloc | apply pw_below_drewN | apply below_drew1) | exact HB.out)) hb); have n1_ := Aside0.mk (hbox); have n2_ := Aside0.mk ((by rw [hg]; exact (below_size (by repeat (first | (with_reducible first | exact HB.out | apply below_alloc | apply pw_below_drewN | apply below_drew1) | exact HB.out))) : w.heap.size ≤ gb158)); have n3_ := Aside0.mk ((by rw [hg]; exact (below_size (by repeat (first | (with_reducible first | exact HB.out | apply below_alloc | apply pw_below_drewN | apply below_drew1) | exact HB.out))) : w.heap.size ≤ gb158)); clear HB; have HB := n0_; have BK158 := n1_; have GW158 := n2_; have GE158 := n3_; clear n0_ n1_ n2_ n3_; clear hb hbox hg) | ((with_reducible refine gate_dst (N := 2) rfl ?_); refine box_event ?hg (N := 2) ?hd (cs := #[.int .i64 0, .slice none 0 0]) (t := 24) ?hr ?_; (case hd => rfl); (case hg => rfl); (case hr => first | (go_simp; done) | (go_simp; rfl)); intro gb159 hg w8 hbox hb; have n0_ := Aside0.mk (blk_below (g := gb158) (o := .cells #[.int .i64 a0_0, .slice A0_1 l0_1.length c0_1] 24 (0, 0)) (by (with_reducible repeat (first | refine blk_drewN ?_ _ | refine blk_drew ?_ | refine blk_alloc ?_ _)); exact BK158.out) hb); have n1_ := Aside0.mk (below_step (by repeat (first | (with_reducible first | exact HB.out | apply below_alloc | apply pw_below_drewN | apply below_drew1 | refine below_set ?_ GE158.out) | exact HB.out)) hb); have n2_ := Aside0.mk (hbox); have n3_ := Aside0.mk ((by rw [hg]; exact (below_size (by repeat (first | (with_reducible first | exact HB.out | apply below_alloc | apply pw_below_drewN | apply below_drew1 | refine below_set ?_ GE158.out) | exact HB.out))) : w.heap.size ≤ gb159)); have n4_ := Aside0.mk ((by rw [hg]; exact (below_size (by repeat (first | (with_reducible first | exact HB.out | apply below_alloc | apply pw_below_drewN | apply below_drew1 | refine below_set ?_ GE158.out) | exact HB.out))) : w.heap.size ≤ gb159)); have n5_ := Aside0.mk ((by rw [hg]; exact Nat.ne_of_lt (blk_lt (g := gb158) (o := .cells #[.int .i64 a0_0, .slice A0_1 l0_1.length c0_1] 24 (0, 0)) (by (with_reducible repeat (first | refine blk_drewN ?_ _ | refine blk_drew ?_ | refine blk_alloc ?_ _)); exact BK158.out)) : gb158 ≠ gb159)); have n6_ := Aside0.mk ((by rw [hg]; exact Nat.ne_of_gt (blk_lt (g := gb158) (o := .cells #[.int .i64 a0_0, .slice A0_1 l0_1.length c0_1] 24 (0, 0)) (by (with_reducible repeat (first | refine blk_drewN ?_ _ | refine blk_drew ?_ | refine blk_alloc ?_ _)); exact BK158.out)) : gb159 ≠ gb158)); clear BK158; clear HB; have BK158 := n0_; have HB := n1_; have BK159 := n2_; have GW159 := n3_; have GE159 := n4_; have NB158_159 := n5_; have NB159_158 := n6_; clear n0_ n1_ n2_ n3_ n4_ n5_ n6_; clear hb hbox hg; have hnb9 := NB158_159.out; have hnc9 := NB159_158.out; have hcz10_0 : w8.cell? ⟨gb158, 0, none⟩ = some (.int .i64 a0_0) := (blk_cell BK158.out 0).trans rfl; have hcz10_1 : w8.cell? ⟨gb158, 1, none⟩ = some (.slice A0_1 l0_1.length c0_1) := (blk_cell BK158.out 1).trans rfl; have hfz10_0 := blk_frozen BK158.out 0; have hfz10_1 := blk_frozen BK158.out 1) | ((with_reducible refine gate_callee (f := 28) rfl ?_); refine goesL_ (some 8) rfl rfl Tryd.func28 (by kernel_rfl) rfl #[.agg #[.int .i64 a0_0, .slice A0_1 l0_1.length c0_1]] rfl (by (try simp only [List.map_toArray, List.map_cons, List.map_nil]); first | done | rfl | (simp only [List.length_drop, List.length_take]; rfl)) ?_; (with_reducible refine (vivariumref02_Valid.calls k a0_0 _ _ l0_1 true _ ?side1 ?side2 A2.out).mono ?_); (case side1 => repeat (first | exact (Kd.C_below HR0_1.out HB.out) | (with_reducible refine Kd.C_alloc ?_ _) | (with_reducible refine Kd.C_drewN ?_ _) | (with_reducible refine Kd.C_drew ?_))); (case side2 => exact HC0_1.out); rintro e w11 ⟨rfl, hb⟩; refine ⟨_, rfl, ?_⟩; have n0_ := Aside0.mk (blk_below (g := gb158) (o := .cells #[.int .i64 a0_0, .slice A0_1 l0_1.length c0_1] 24 (0, 0)) (by (with_reducible repeat (first | refine blk_drewN ?_ _ | refine blk_drew ?_ | refine blk_alloc ?_ _)); exact BK158.out) hb); have n1_ := Aside0.mk (blk_below (g := gb159) (o := .cells #[.int .i64 0, .slice none 0 0] 24 (0, 0)) (by (with_reducible repeat (first | refine blk_drewN ?_ _ | refine blk_drew ?_ | refine blk_alloc ?_ _)); exact BK159.out) hb); have n2_ := Aside0.mk (below_step (by repeat (first | (with_reducible first | exact HB.out | apply below_alloc | apply pw_below_drewN | apply below_drew1 | refine below_set ?_ GE158.out | refine below_set ?_ GE159.out) | exact HB.out)) hb); clear BK158; clear BK159; clear HB; have BK158 := n0_; have BK159 := n1_; have HB := n2_; clear n0_ n1_ n2_; (try clear hb); (try clear hb2); (try clear hk); (try clear hi); have hcz12_0 : w11.cell? ⟨gb158, 0, none⟩ = some (.int .i64 a0_0) := (blk_cell BK158.out 0).trans rfl; have hcz12_1 : w11.cell? ⟨gb158, 1, none⟩ = some (.slice A0_1 l0_1.length c0_1) := (blk_cell BK158.out 1).trans rfl; have hfz12_0 := blk_frozen BK158.out 0; have hfz12_1 := blk_frozen BK158.out 1) | ((with_reducible refine gate_callee (f := 43) rfl ?_); refine goesL_ (some 12) rfl rfl Tryd.func43 (by kernel_rfl) rfl #[.agg #[.int .i64 a0_0, .slice A0_1 l0_1.length c0_1]] rfl (by (try simp only [List.map_toArray, List.map_cons, List.map_nil]); first | done | rfl | (simp only [List.length_drop, List.length_take]; rfl)) ?_; (with_reducible refine (vivariumref02_Bits.calls k a0_0 _ _ l0_1 t161 _ ?side1 ?side2 A4.out).mono ?_); (case side1 => repeat (first | exact (Kd.C_below HR0_1.out HB.out) | (with_reducible refine Kd.C_alloc ?_ _) | (with_reducible refine Kd.C_drewN ?_ _) | (with_reducible refine Kd.C_drew ?_))); (case side2 => exact HC0_1.out); rintro e w13 ⟨v162, rfl, ho0, hb⟩; refine ⟨_, rfl, ?_⟩; have n0_ := Aside0.mk (Kd.R_lower ho0 (below_size (by repeat (first | (with_reducible first | exact HB.out | apply below_alloc | apply pw_below_drewN | apply below_drew1 | refine below_set ?_ GE158.out | refine below_set ?_ GE159.out) | exact HB.out)))); have n1_ := Aside0.mk (blk_below (g := gb158) (o := .cells #[.int .i64 a0_0, .slice A0_1 l0_1.length c0_1] 24 (0, 0)) (by (with_reducible repeat (first | refine blk_drewN ?_ _ | refine blk_drew ?_ | refine blk_alloc ?_ _)); exact BK158.out) hb); have n2_ := Aside0.mk (blk_below (g := gb159) (o := .cells #[.int .i64 0, .slice none 0 0] 24 (0, 0)) (by (with_reducible repeat (first | refine blk_drewN ?_ _ | refine blk_drew ?_ | refine blk_alloc ?_ _)); exact BK159.out) hb); have n3_ := Aside0.mk (below_step (by repeat (first | (with_reducible first | exact HB.out | apply below_alloc | apply pw_below_drewN | apply below_drew1 | refine below_set ?_ GE158.out | refine below_set ?_ GE159.out) | exact HB.out)) hb); clear BK158; clear BK159; clear HB; have HO163 := n0_; have BK158 := n1_; have BK159 := n2_; have HB := n3_; clear n0_ n1_ n2_ n3_; (try clear hb); (try clear hb2); (try clear hk); (try clear hi); (try clear ho0); obtain ⟨Ao14, co14, eo14⟩ := Kd.R_slice HO163.out; subst eo14) | ((with_reducible refine gate_dst (N := 15) rfl ?_); refine Kd.R_make Kd.bool _ 4 rfl (N := 15) rfl 47 _ _ rfl (t161.length : Int) rfl rfl Tryd.underlying47 (.bool false) 1 info4 rfl (by decide) (by omega) false (ok := fun _ => True) (okp := fun _ => True) rfl (fun _ hk => hk) trivial (of_decide_eq_true (by first | (with_reducible assumption) | assumption)) (Nat.le_trans (Nat.mul_le_mul_right _ (of_decide_eq_true (by first | (with_reducible assumption) | assumption) : (t161.length : Int).toNat ≤ 281474976710656)) (by omega)) (Below.refl _ _) (Nat.le_refl _) ?_; intro v165 w15 ho16 hb hg_ hnew_; clear hg_ hnew_; (first | rw [← Ny164.out] at ho16 | (simp only [Int.reduceToNat] at ho16; rw [← Ny164.out] at ho16)); have n0_ := Aside0.mk (Kd.R_elder' (by (with_reducible repeat (first | apply Kd.R_alloc | apply Kd.R_drewN | apply Kd.R_drew)); exact HO163.out) (Kd.R_base ho16) hb); have n1_ := Aside0.mk (Kd.R_lower (Kd.R_new' ho16 (Kd.R_lt (by (with_reducible repeat (first | apply Kd.R_alloc | apply Kd.R_drewN | apply Kd.R_drew)); exact HO163.out))) (below_size (by repeat (first | (with_reducible first | exact HB.out | apply below_alloc | apply pw_below_drewN | apply below_drew1 | refine below_set ?_ GE158.out | refine below_set ?_ GE159.out) | exact HB.out)))); have n2_ := Aside0.mk (blk_below (g := gb158) (o := .cells #[.int .i64 a0_0, .slice A0_1 l0_1.length c0_1] 24 (0, 0)) (by (with_reducible repeat (first | refine blk_drewN ?_ _ | refine blk_drew ?_ | refine blk_alloc ?_ _)); exact BK158.out) hb); have n3_ := Aside0.mk (blk_below (g := gb159) (o := .cells #[.int .i64 0, .slice none 0 0] 24 (0, 0)) (by (with_reducible repeat (first | refine blk_drewN ?_ _ | refine blk_drew ?_ | refine blk_alloc ?_ _)); exact BK159.out) hb); have n4_ := Aside0.mk (below_step (by repeat (first | (with_reducible first | exact HB.out | apply below_alloc | apply pw_below_drewN | apply below_drew1 | refine below_set ?_ GE158.out | refine below_set ?_ GE159.out) | exact HB.out)) hb); clear HO163; clear BK158; clear BK159; clear HB; have HO163 := n0_; have HO166 := n1_; have BK158 := n2_; have BK159 := n3_; have HB := n4_; clear n0_ n1_ n2_ n3_ n4_; clear hb ho16))
        go_loopg [6] k (fun kq v6 w' => ∃ (x5_1 : List Bool) (x6_1 : Int), v6 = .int .i64 x6_1 ∧ Aside0 (vivariumref02_Turned.l0 kq t161 x5_1 x6_1 = some (r1, r2, r3)) ∧ Aside0 (kq ≤ k) ∧ Aside0 (Kd.R Kd.bool 4 w' w.heap.size (fun k_ => some k_ ≠ (v165 : Value).ownBlock) (.slice Ao14 t161.length co14) t161) ∧ Aside0 (Kd.R Kd.bool 4 w' w.heap.size (fun k_ => some k_ ≠ ((.slice Ao14 t161.length co14) : Value).ownBlock) v165 x5_1) ∧ Aside0 (w'.heap[gb158]? = some (.cells #[.int .i64 a0_0, (.slice A0_1 l0_1.length c0_1)] 24 (0, 0))) ∧ Aside0 (w'.heap[gb159]? = some (.cells #[.int .i64 0, (.slice none 0 0)] 24 (0, 0))) ∧ Aside0 (Below w.heap.size w w'))
        case atStart => exact ⟨(y164), (0), (by first | rfl | (simp; done) | (simp [*]; done) | (simp [wrap64]; done)), H', ⟨Nat.le_refl _⟩, ⟨by (with_reducible repeat (first | apply Kd.R_alloc | apply Kd.R_drewN | apply Kd.R_drew)); exact Kd.R_mono HO163.out (fun _ hk => hk.2)⟩, ⟨by (with_reducible repeat (first | apply Kd.R_alloc | apply Kd.R_drewN | apply Kd.R_drew)); exact Kd.R_mono HO166.out (fun _ hk => hk.2)⟩, ⟨by (with_reducible repeat (first | refine blk_drewN ?_ _ | refine blk_drew ?_ | refine blk_alloc ?_ _)); exact BK158.out⟩, ⟨by (with_reducible repeat (first | refine blk_drewN ?_ _ | refine blk_drew ?_ | refine blk_alloc ?_ _)); exact BK159.out⟩, ⟨by repeat (first | (with_reducible first | exact HB.out | apply below_alloc | apply pw_below_drewN | apply below_drew1 | refine below_set ?_ GE158.out | refine below_set ?_ GE159.out) | exact HB.out)⟩⟩
        case round =>
          clear H'
          try clear c2
          try clear p2
          try clear c3
          try clear c4
          try clear c5
          try clear c5b0
          try clear c5b1
          try clear c6
          try clear c6b0
          try clear c6b1
          try clear c9
          try clear hcz10_0
          try clear hcz10_1
          try clear hcz12_0
          try clear hcz12_1
          try clear hfz10_0
          try clear hfz10_1
          try clear hfz12_0
          try clear hfz12_1
          obtain ⟨x5_1, x6_1, rfl, HA, HK1, HO_4, HO_5, BK158, BK159, HB⟩ := hrel
          cases gk with
          | zero => exact absurd HA.out (by simp [vivariumref02_Turned.l0])
          | succ k1 =>
            have H := HA.out
            clear HA
            simp only [vivariumref02_Turned.l0] at H
            by_cases c17 : x6_1 < (t161.length : Int)
            · rw [if_pos c17] at H
              have c17b0 : decide (x6_1 < (t161.length : Int)) = true := decide_eq_true c17
              clear c17
              obtain ⟨ji18, hji18⟩ : ∃ j_ : Int, (wrap64 ((wrap64 ((t161.length : Int) - 1)) - x6_1)) = j_ := ⟨_, rfl⟩
              replace H : (if 0 ≤ (ji18) then (if (ji18) < (t161.length : Int) then (if 0 ≤ x6_1 then (if x6_1 < (x5_1.length : Int) then (vivariumref02_Turned.l0 k1 t161 (x5_1.set (x6_1 : Int).toNat (rdOf false t161 (ji18))) (wrap64 (x6_1 + 1))) else (none)) else (none)) else (none)) else (none)) = some (r1, r2, r3) := by first | (rw [hji18] at H; exact H) | (simp only [hji18] at H ⊢; exact H)
              have hji18w : (IntKind.i64.wrap ((wrap64 ((t161.length : Int) - 1)) - x6_1)) = ji18 := (i64_w _).trans hji18
              by_cases c19 : 0 ≤ (ji18)
              · rw [if_pos c19] at H
                have c19b0 : decide (0 ≤ (ji18)) = true := decide_eq_true c19
                clear c19
                by_cases c20 : (ji18) < (t161.length : Int)
                · rw [if_pos c20] at H
                  have c20b0 : decide ((ji18) < (t161.length : Int)) = true := decide_eq_true c20
                  clear c20
                  by_cases c21 : 0 ≤ x6_1
                  · rw [if_pos c21] at H
                    have c21b0 : decide (0 ≤ x6_1) = true := decide_eq_true c21
                    clear c21
                    by_cases c22 : x6_1 < (x5_1.length : Int)
                    · rw [if_pos c22] at H
                      have c22b0 : decide (x6_1 < (x5_1.length : Int)) = true := decide_eq_true c22
                      clear c22
                      obtain ⟨y168, hy168⟩ : ∃ y_ : List Bool, y_ = (x5_1.set (x6_1 : Int).toNat (rdOf false t161 (ji18))) := ⟨_, rfl⟩
                      replace H : (vivariumref02_Turned.l0 k1 t161 y168 (wrap64 (x6_1 + 1))) = some (r1, r2, r3) := by first | (rw [hy168]; with_reducible exact H) | (have H2_ := (Option.bind_some _ _).symm.trans H; rw [hy168]; with_reducible exact H2_) | (have H2_ := (Option.bind_some _ _).symm.trans H; with_reducible exact H2_) | with_reducible exact H | (rw [hy168]; exact H) | exact H
                      have Ny168 := Aside0.mk hy168
                      clear hy168
                      have H' := Aside0.mk H
                      clear H
                      have p167 : 0 ≤ ((ji18) : Int) := of_decide_eq_true (by first | (with_reducible assumption) | assumption)
                      have q167 : (ji18) < (t161.length : Int) := of_decide_eq_true (by first | (with_reducible assumption) | assumption)
                      obtain ⟨ad167, e167, hx167_0⟩ := Kd.at_bool (Kd.R_reads' HO_4.out).2.2 (ji18) p167 q167
                      cases e167
                      replace p167 := eq_true p167
                      replace q167 := eq_true q167
                      have p23 : 0 ≤ (x6_1 : Int) := of_decide_eq_true (by first | (with_reducible assumption) | assumption)
                      have q23 : (x6_1 : Int) < ((x5_1.length : Int) : Int) := of_decide_eq_true (by first | (with_reducible assumption) | assumption)
                      obtain ⟨go23, co23, eo23, gb23, gl23, cl23, HG23⟩ := Kd.R_form HO_5.out (by omega)
                      (first | cases eo23 | (injection eo23 with ea_ en_ ec_; (first | subst ea_ | (injection ea_ with ea_; subst ea_)); subst ec_; clear en_))
                      have GB23 := Aside0.mk gb23
                      have GG23 := Aside0.mk HG23
                      clear gb23 gl23 HG23
                      obtain ⟨hx23_0, hf23_0⟩ := Kd.R_celln false HO_5.out (x6_1 : Int) p23 q23
                      replace p23 := eq_true p23
                      replace q23 := eq_true q23
                      have HP24 := Kd.R_putg HO_5.out (x6_1 : Int) (rdOf false t161 (ji18))
                      go_wp2_with (first | ((with_reducible refine gate_store (t := 4) (p := 32) rfl ?_); refine store_event (t := 4) (p := 32) (v := ?vo_w25) (w1 := (wr.setCell ⟨go23, (x6_1 : Int).toNat, none⟩ (.bool (rdOf false t161 (ji18))))) ?hg ?ho ?hn ?hr ?_; (case ho => rfl); (case hg => rfl); (case hn => rfl); (case hr => first | (go_simp; done) | (go_simp; rfl)); intro w25 hw; have hg : wr.grownBy w25 (some go23) := (by rw [hw]; exact HP24.2); have hp_ : Kd.R Kd.bool 4 w25 w.heap.size (fun k_ => some k_ ≠ (.slice (some ad167) t161.length co14 : Value).ownBlock) (.slice (some ⟨go23, 0, none⟩) x5_1.length co23) y168 := (by rw [hw, Ny168.out]; exact HP24.1); clear HP24; have n0_ := Aside0.mk (Kd.R_after (v := (.slice (some ⟨go23, 0, none⟩) x5_1.length co23)) (v1 := (.slice (some ⟨go23, 0, none⟩) x5_1.length co23)) (ok := (fun _ => True)) (by (with_reducible repeat (first | apply Kd.R_alloc | apply Kd.R_drewN | apply Kd.R_drew)); exact Kd.R_mono HO_4.out (fun _ hk => ⟨trivial, hk⟩)) hg (.inl rfl)); have n1_ := Aside0.mk (hp_); have n2_ := Aside0.mk (blk_grown (g := gb158) (o := .cells #[.int .i64 a0_0, .slice A0_1 l0_1.length c0_1] 24 (0, 0)) (by (with_reducible repeat (first | refine blk_drewN ?_ _ | refine blk_drew ?_ | refine blk_alloc ?_ _)); exact BK158.out) hg (Kd.R_ne HO_5.out BK158.out (by decide))); have n3_ := Aside0.mk (blk_grown (g := gb159) (o := .cells #[.int .i64 0, .slice none 0 0] 24 (0, 0)) (by (with_reducible repeat (first | refine blk_drewN ?_ _ | refine blk_drew ?_ | refine blk_alloc ?_ _)); exact BK159.out) hg (Kd.R_ne HO_5.out BK159.out (by decide))); have n4_ := Aside0.mk ((by rw [hw]; exact below_set (HB.out) GB23.out : Below w.heap.size w w25)); clear HO_4; clear HO_5; clear BK158; clear BK159; clear HB; have HO_4 := n0_; have HO_5 := n1_; have BK158 := n2_; have BK159 := n3_; have HB := n4_; clear n0_ n1_ n2_ n3_ n4_; clear hg hw hp_))
                      go_roundg k1
                      case measure => have := HK1.out; omega
                      case rel => exact ⟨(y168), (wrap64 (x6_1 + 1)), (by first | rfl | (simp; done) | (simp [*]; done) | (simp [wrap64]; done)), H', ⟨by have := HK1.out; omega⟩, ⟨by (with_reducible repeat (first | apply Kd.R_alloc | apply Kd.R_drewN | apply Kd.R_drew)); exact Kd.R_mono HO_4.out (fun _ hk => hk.2)⟩, ⟨by (with_reducible repeat (first | apply Kd.R_alloc | apply Kd.R_drewN | apply Kd.R_drew)); exact HO_5.out⟩, ⟨by (with_reducible repeat (first | refine blk_drewN ?_ _ | refine blk_drew ?_ | refine blk_alloc ?_ _)); exact BK158.out⟩, ⟨by (with_reducible repeat (first | refine blk_drewN ?_ _ | refine blk_drew ?_ | refine blk_alloc ?_ _)); exact BK159.out⟩, ⟨by repeat (first | (with_reducible first | exact HB.out | apply below_alloc | apply pw_below_drewN | apply below_drew1 | refine below_set ?_ GE158.out | refine below_set ?_ GE159.out) | exact HB.out)⟩⟩
                    · rw [if_neg c22] at H
                      exact absurd H (by simp)
                  · rw [if_neg c21] at H
                    exact absurd H (by simp)
                · rw [if_neg c20] at H
                  exact absurd H (by simp)
              · rw [if_neg c19] at H
                exact absurd H (by simp)
            · rw [if_neg c17] at H
              have c17b0 : decide (x6_1 < (t161.length : Int)) = false := decide_eq_false c17
              clear c17
              replace H := Option.bind_eq_some_iff.mp H
              obtain ⟨⟨t169, t170⟩, A260, H⟩ := H
              replace H : (some (t169, t170, 0)) = some (r1, r2, r3) := H
              have A26 := Aside0.mk A260
              clear A260
              simp only [Option.some.injEq, Prod.mk.injEq] at H
              obtain ⟨rfl, rfl, rfl⟩ := H
              obtain ⟨Ao27, co27, eo27⟩ := Kd.R_slice HO_5.out
              subst eo27
              go_wp2_with (first | ((with_reducible refine gate_callee (f := 44) rfl ?_); refine goesL_ (some 34) rfl rfl Tryd.func44 (by kernel_rfl) rfl #[.slice Ao27 x5_1.length co27] rfl (by (try simp only [List.map_toArray, List.map_cons, List.map_nil]); first | done | rfl | (simp only [List.length_drop, List.length_take]; rfl)) ?_; (with_reducible refine (vivariumref02_Row.calls k1 _ _ x5_1 t169 t170 _ ?side1 ?side2 A26.out).mono ?_); (case side1 => repeat (first | exact (Kd.R_reads' HO_5.out).2.2 | (with_reducible refine Kd.C_alloc ?_ _) | (with_reducible refine Kd.C_drewN ?_ _) | (with_reducible refine Kd.C_drew ?_))); (case side2 => exact (Kd.R_reads' HO_5.out).2.1); rintro e w28 ⟨v171, rfl, ho0, hb⟩; refine ⟨_, rfl, ?_⟩; have n0_ := Aside0.mk (Kd.R_below (by (with_reducible repeat (first | apply Kd.R_alloc | apply Kd.R_drewN | apply Kd.R_drew)); exact HO_4.out) hb); have n1_ := Aside0.mk (Kd.R_below (by (with_reducible repeat (first | apply Kd.R_alloc | apply Kd.R_drewN | apply Kd.R_drew)); exact HO_5.out) hb); have n2_ := Aside0.mk (Kd.R_lower ho0 (below_size (by repeat (first | (with_reducible first | exact HB.out | apply below_alloc | apply pw_below_drewN | apply below_drew1 | refine below_set ?_ GE158.out | refine below_set ?_ GE159.out) | exact HB.out)))); have n3_ := Aside0.mk (blk_below (g := gb158) (o := .cells #[.int .i64 a0_0, .slice A0_1 l0_1.length c0_1] 24 (0, 0)) (by (with_reducible repeat (first | refine blk_drewN ?_ _ | refine blk_drew ?_ | refine blk_alloc ?_ _)); exact BK158.out) hb); have n4_ := Aside0.mk (blk_below (g := gb159) (o := .cells #[.int .i64 0, .slice none 0 0] 24 (0, 0)) (by (with_reducible repeat (first | refine blk_drewN ?_ _ | refine blk_drew ?_ | refine blk_alloc ?_ _)); exact BK159.out) hb); have n5_ := Aside0.mk (below_step (by repeat (first | (with_reducible first | exact HB.out | apply below_alloc | apply pw_below_drewN | apply below_drew1 | refine below_set ?_ GE158.out | refine below_set ?_ GE159.out) | exact HB.out)) hb); clear HO_4; clear HO_5; clear BK158; clear BK159; clear HB; have HO_4 := n0_; have HO_5 := n1_; have HO172 := n2_; have BK158 := n3_; have BK159 := n4_; have HB := n5_; clear n0_ n1_ n2_ n3_ n4_ n5_; (try clear hb); (try clear hb2); (try clear hk); (try clear hi); (try clear ho0); have hnb29 := NB159_158.out; have hnc29 := NB158_159.out; have hcz30_0 : w28.cell? ⟨gb159, 0, none⟩ = some (.int .i64 0) := (blk_cell BK159.out 0).trans rfl; have hcz30_1 : w28.cell? ⟨gb159, 1, none⟩ = some (.slice none 0 0) := (blk_cell BK159.out 1).trans rfl; have hfz30_0 := blk_frozen BK159.out 0; have hfz30_1 := blk_frozen BK159.out 1; obtain ⟨Ao31, co31, eo31⟩ := Kd.R_slice HO172.out; subst eo31))
              refine bodyPost_ret (results_ct rfl _ _ gb159 24 #[.int .i64 t169, .slice Ao31 t170.length co31] (0, 0) _ rfl (by (with_reducible repeat (first | refine blk_drewN ?_ _ | refine blk_drew ?_ | refine blk_alloc ?_ _)); refine blk_put (cs := #[.int .i64 t169, .slice none 0 0]) ?_ 1 _ rfl; (with_reducible repeat (first | refine blk_drewN ?_ _ | refine blk_drew ?_ | refine blk_alloc ?_ _)); refine blk_put (cs := #[.int .i64 0, .slice none 0 0]) ?_ 0 _ rfl; (with_reducible repeat (first | refine blk_drewN ?_ _ | refine blk_drew ?_ | refine blk_alloc ?_ _)); exact BK159.out) Tryd.underlying24 rfl (by kernel_rfl)) rfl ?_
              exact ⟨_, by first | rfl | (simp [errW_none, errW_some] <;> rfl) | (simp [*, errW_none, errW_some] <;> rfl), by (with_reducible repeat (first | apply Kd.R_alloc | apply Kd.R_drewN | apply Kd.R_drew)); exact Kd.R_mono (Kd.R_far (p := ⟨gb159, 1, none⟩) (Kd.R_far (p := ⟨gb159, 0, none⟩) (Kd.R_types HO172.out BK159.out (by decide)) (fun _ hk => hk.2) (.int .i64 t169)) (fun _ hk => hk.2) (.slice Ao31 t170.length co31)) (fun _ hk => trivial), by repeat (first | (with_reducible first | exact HB.out | apply below_alloc | apply pw_below_drewN | apply below_drew1 | refine below_set ?_ GE158.out | refine below_set ?_ GE159.out) | exact HB.out)⟩
      · rw [if_neg c6] at H
        exact absurd H (by simp)
    · rw [if_neg c5] at H
      exact absurd H (by simp)
  · replace c3 := Bool.eq_false_iff.mpr c3
    subst c3
    have H1 : (some (0, ([] : List Int), 20)) = some (r1, r2, r3) := by rw [if_neg (show ¬ (false = true) by decide)] at H; exact H
    clear H
    have H := H1
    clear H1
    simp only [Option.some.injEq, Prod.mk.injEq] at H
    obtain ⟨rfl, rfl, rfl⟩ := H
    go_enter Tryd.func40, Tryd.ntmps40
    go_wp2_with (first | ((with_reducible refine gate_dst (N := 1) rfl ?_); refine box_event ?hg (N := 1) ?hd (cs := #[.int .i64 a0_0, .slice A0_1 l0_1.length c0_1]) (t := 24) ?hr ?_; (case hd => rfl); (case hg => rfl); (case hr => first | (go_simp; done) | (go_simp; rfl)); intro gb158 hg w32 hbox hb; have n0_ := Aside0.mk (below_step (by repeat (first | (with_reducible first | exact HB.out | apply below_alloc | apply pw_below_drewN | apply below_drew1) | exact HB.out)) hb); have n1_ := Aside0.mk (hbox); have n2_ := Aside0.mk ((by rw [hg]; exact (below_size (by repeat (first | (with_reducible first | exact HB.out | apply below_alloc | apply pw_below_drewN | apply below_drew1) | exact HB.out))) : w.heap.size ≤ gb158)); have n3_ := Aside0.mk ((by rw [hg]; exact (below_size (by repeat (first | (with_reducible first | exact HB.out | apply below_alloc | apply pw_below_drewN | apply below_drew1) | exact HB.out))) : w.heap.size ≤ gb158)); clear HB; have HB := n0_; have BK158 := n1_; have GW158 := n2_; have GE158 := n3_; clear n0_ n1_ n2_ n3_; clear hb hbox hg) | ((with_reducible refine gate_dst (N := 2) rfl ?_); refine box_event ?hg (N := 2) ?hd (cs := #[.int .i64 0, .slice none 0 0]) (t := 24) ?hr ?_; (case hd => rfl); (case hg => rfl); (case hr => first | (go_simp; done) | (go_simp; rfl)); intro gb159 hg w33 hbox hb; have n0_ := Aside0.mk (blk_below (g := gb158) (o := .cells #[.int .i64 a0_0, .slice A0_1 l0_1.length c0_1] 24 (0, 0)) (by (with_reducible repeat (first | refine blk_drewN ?_ _ | refine blk_drew ?_ | refine blk_alloc ?_ _)); exact BK158.out) hb); have n1_ := Aside0.mk (below_step (by repeat (first | (with_reducible first | exact HB.out | apply below_alloc | apply pw_below_drewN | apply below_drew1 | refine below_set ?_ GE158.out) | exact HB.out)) hb); have n2_ := Aside0.mk (hbox); have n3_ := Aside0.mk ((by rw [hg]; exact (below_size (by repeat (first | (with_reducible first | exact HB.out | apply below_alloc | apply pw_below_drewN | apply below_drew1 | refine below_set ?_ GE158.out) | exact HB.out))) : w.heap.size ≤ gb159)); have n4_ := Aside0.mk ((by rw [hg]; exact (below_size (by repeat (first | (with_reducible first | exact HB.out | apply below_alloc | apply pw_below_drewN | apply below_drew1 | refine below_set ?_ GE158.out) | exact HB.out))) : w.heap.size ≤ gb159)); have n5_ := Aside0.mk ((by rw [hg]; exact Nat.ne_of_lt (blk_lt (g := gb158) (o := .cells #[.int .i64 a0_0, .slice A0_1 l0_1.length c0_1] 24 (0, 0)) (by (with_reducible repeat (first | refine blk_drewN ?_ _ | refine blk_drew ?_ | refine blk_alloc ?_ _)); exact BK158.out)) : gb158 ≠ gb159)); have n6_ := Aside0.mk ((by rw [hg]; exact Nat.ne_of_gt (blk_lt (g := gb158) (o := .cells #[.int .i64 a0_0, .slice A0_1 l0_1.length c0_1] 24 (0, 0)) (by (with_reducible repeat (first | refine blk_drewN ?_ _ | refine blk_drew ?_ | refine blk_alloc ?_ _)); exact BK158.out)) : gb159 ≠ gb158)); clear BK158; clear HB; have BK158 := n0_; have HB := n1_; have BK159 := n2_; have GW159 := n3_; have GE159 := n4_; have NB158_159 := n5_; have NB159_158 := n6_; clear n0_ n1_ n2_ n3_ n4_ n5_ n6_; clear hb hbox hg; have hnb34 := NB158_159.out; have hnc34 := NB159_158.out; have hcz35_0 : w33.cell? ⟨gb158, 0, none⟩ = some (.int .i64 a0_0) := (blk_cell BK158.out 0).trans rfl; have hcz35_1 : w33.cell? ⟨gb158, 1, none⟩ = some (.slice A0_1 l0_1.length c0_1) := (blk_cell BK158.out 1).trans rfl; have hfz35_0 := blk_frozen BK158.out 0; have hfz35_1 := blk_frozen BK158.out 1) | ((with_reducible refine gate_callee (f := 28) rfl ?_); refine goesL_ (some 8) rfl rfl Tryd.func28 (by kernel_rfl) rfl #[.agg #[.int .i64 a0_0, .slice A0_1 l0_1.length c0_1]] rfl (by (try simp only [List.map_toArray, List.map_cons, List.map_nil]); first | done | rfl | (simp only [List.length_drop, List.length_take]; rfl)) ?_; (with_reducible refine (vivariumref02_Valid.calls k a0_0 _ _ l0_1 false _ ?side1 ?side2 A2.out).mono ?_); (case side1 => repeat (first | exact (Kd.C_below HR0_1.out HB.out) | (with_reducible refine Kd.C_alloc ?_ _) | (with_reducible refine Kd.C_drewN ?_ _) | (with_reducible refine Kd.C_drew ?_))); (case side2 => exact HC0_1.out); rintro e w36 ⟨rfl, hb⟩; refine ⟨_, rfl, ?_⟩; have n0_ := Aside0.mk (blk_below (g := gb158) (o := .cells #[.int .i64 a0_0, .slice A0_1 l0_1.length c0_1] 24 (0, 0)) (by (with_reducible repeat (first | refine blk_drewN ?_ _ | refine blk_drew ?_ | refine blk_alloc ?_ _)); exact BK158.out) hb); have n1_ := Aside0.mk (blk_below (g := gb159) (o := .cells #[.int .i64 0, .slice none 0 0] 24 (0, 0)) (by (with_reducible repeat (first | refine blk_drewN ?_ _ | refine blk_drew ?_ | refine blk_alloc ?_ _)); exact BK159.out) hb); have n2_ := Aside0.mk (below_step (by repeat (first | (with_reducible first | exact HB.out | apply below_alloc | apply pw_below_drewN | apply below_drew1 | refine below_set ?_ GE158.out | refine below_set ?_ GE159.out) | exact HB.out)) hb); clear BK158; clear BK159; clear HB; have BK158 := n0_; have BK159 := n1_; have HB := n2_; clear n0_ n1_ n2_; (try clear hb); (try clear hb2); (try clear hk); (try clear hi); have hcz37_0 : w36.cell? ⟨gb159, 0, none⟩ = some (.int .i64 0) := (blk_cell BK159.out 0).trans rfl; have hcz37_1 : w36.cell? ⟨gb159, 1, none⟩ = some (.slice none 0 0) := (blk_cell BK159.out 1).trans rfl; have hfz37_0 := blk_frozen BK159.out 0; have hfz37_1 := blk_frozen BK159.out 1))
    refine bodyPost_ret (results_ct rfl _ _ gb159 24 #[.int .i64 0, .slice none 0 0] (0, 0) _ rfl (by (with_reducible repeat (first | refine blk_drewN ?_ _ | refine blk_drew ?_ | refine blk_alloc ?_ _)); refine blk_put (cs := #[.int .i64 0, .slice none 0 0]) ?_ 1 _ rfl; (with_reducible repeat (first | refine blk_drewN ?_ _ | refine blk_drew ?_ | refine blk_alloc ?_ _)); refine blk_put (cs := #[.int .i64 0, .slice none 0 0]) ?_ 0 _ rfl; (with_reducible repeat (first | refine blk_drewN ?_ _ | refine blk_drew ?_ | refine blk_alloc ?_ _)); exact BK159.out) Tryd.underlying24 rfl (by kernel_rfl)) rfl ?_
    exact ⟨_, by first | rfl | (simp [errW_none, errW_some] <;> rfl) | (simp [*, errW_none, errW_some] <;> rfl), by first | exact Kd.R_nil _ _ _ _ _ | exact Kd.N_nil _ _ _ _ _ | exact Kd.V_nil _ _ _ _ _ | exact Kd.Q_nil _ _ _ _ _ | exact Kd.S_nil _ _ _ _ _, by repeat (first | (with_reducible first | exact HB.out | apply below_alloc | apply pw_below_drewN | apply below_drew1 | refine below_set ?_ GE158.out | refine below_set ?_ GE159.out) | exact HB.out)⟩
end Go.Proofs.YtlghmadoogblcaaDoor.PB
end
section
namespace Go.Proofs.YtlghmadoogblcaaDoor.OnesPlain
set_option maxRecDepth 100000
def ones (x : Nat) : List Nat := (List.range 64).filter (fun i => x.testBit i)
theorem ones_zero : ones 0 = [] := by simp [ones]
theorem low_bit : ∀ (n x : Nat), x < 2 ^ n → x ≠ 0 → ∃ t q, t < n ∧ x = 2 ^ t * (2 * q + 1)
  | 0, x, h, h0 => by simp at h; omega
  | n + 1, x, h, h0 => by
    by_cases e : x % 2 = 1
    · exact ⟨0, x / 2, by omega, by simp; omega⟩
    · obtain ⟨t, q, ht, hx⟩ := low_bit n (x / 2) (by rw [Nat.pow_succ] at h; omega) (by omega)
      refine ⟨t + 1, q, by omega, ?_⟩
      rw [Nat.pow_succ, Nat.mul_comm (2 ^ t) 2, Nat.mul_assoc, ← hx]
      omega
theorem bit_x (t q i : Nat) : (2 ^ t * (2 * q + 1)).testBit i = (decide (i = t) || (decide (t < i) && q.testBit (i - t - 1))) := by
  rw [Nat.testBit_two_pow_mul]
  by_cases h : t ≤ i
  · by_cases e : i = t
    · subst e; simp
    · have e2 : i - t = (i - t - 1) + 1 := by omega
      have h3 : t < i := by omega
      rw [e2, Nat.testBit_succ, show (2 * q + 1) / 2 = q by omega]
      simp [h, e, h3]
  · have h3 : ¬ t < i := by omega
    have h4 : ¬ i = t := by omega
    simp [h, h3, h4]
theorem bit_pred (t q i : Nat) : (2 ^ t * (2 * q + 1) - 1).testBit i = (decide (i < t) || (decide (t < i) && q.testBit (i - t - 1))) := by
  have hp : 0 < 2 ^ t := Nat.pow_pos (by omega)
  have e : 2 ^ t * (2 * q + 1) - 1 = 2 ^ t * (2 * q) + (2 ^ t - 1) := by
    rw [Nat.mul_add, Nat.mul_one]; omega
  rw [e, Nat.testBit_two_pow_mul_add _ (by omega)]
  by_cases h : i < t
  · rw [if_pos h, Nat.testBit_two_pow_sub_one]
    simp [h]
  · rw [if_neg h]
    by_cases e : i = t
    · subst e; simp
    · have e2 : i - t = (i - t - 1) + 1 := by omega
      have h3 : t < i := by omega
      rw [e2, Nat.testBit_succ, show 2 * q / 2 = q by omega]
      simp [h, h3]
theorem range_at (n t : Nat) (h : t < n) : List.range n = List.range t ++ t :: (List.range (n - 1 - t)).map (t + 1 + ·) := by
  apply List.ext_getElem
  · rw [List.length_append, List.length_cons, List.length_map, List.length_range, List.length_range, List.length_range]; omega
  · intro i h1 h2
    rw [List.getElem_range]
    by_cases h : i < t
    · rw [List.getElem_append_left (by simpa using h), List.getElem_range]
    · rw [List.getElem_append_right (by simpa using h)]
      by_cases e : i = t
      · have e2 : i - t = 0 := by omega
        simp only [List.length_range, e2, List.getElem_cons_zero]
        exact e
      · obtain ⟨k, hk⟩ : ∃ k, i - t = k + 1 := ⟨i - t - 1, by omega⟩
        simp only [List.length_range, hk, List.getElem_cons_succ, List.getElem_map, List.getElem_range]
        omega
theorem ones_step (x : Nat) (hx : x < 18446744073709551616) (h0 : x ≠ 0) :
    ∃ t, t < 64 ∧ ones x = t :: ones (x &&& (x - 1)) ∧ x &&& (18446744073709551616 - x) = 2 ^ t ∧ x.testBit t = true := by
  obtain ⟨t, q, ht, rfl⟩ := low_bit 64 x hx h0
  have hand : ∀ i, (2 ^ t * (2 * q + 1) &&& (2 ^ t * (2 * q + 1) - 1)).testBit i = (decide (t < i) && q.testBit (i - t - 1)) := by
    intro i
    rw [Nat.testBit_and, bit_x, bit_pred]
    by_cases h : i < t
    · have : ¬ t < i := by omega
      have : ¬ i = t := by omega
      simp [*]
    · by_cases e : i = t
      · subst e; simp
      · have : t < i := by omega
        simp [*]
  refine ⟨t, ht, ?_, ?_, by rw [bit_x]; simp⟩
  · unfold ones
    have hr := range_at 64 t ht
    rw [hr, List.filter_append, List.filter_append, List.filter_cons, List.filter_cons, bit_x, hand]
    have n1 : (List.range t).filter (fun i => (2 ^ t * (2 * q + 1)).testBit i) = [] := by
      rw [List.filter_eq_nil_iff]
      intro i hi
      have := List.mem_range.1 hi
      rw [bit_x]
      have : ¬ t < i := by omega
      have : ¬ i = t := by omega
      simp [*]
    have n2 : (List.range t).filter (fun i => (2 ^ t * (2 * q + 1) &&& (2 ^ t * (2 * q + 1) - 1)).testBit i) = [] := by
      rw [List.filter_eq_nil_iff]
      intro i hi
      have := List.mem_range.1 hi
      rw [hand]
      have : ¬ t < i := by omega
      simp [*]
    rw [n1, n2]
    simp only [decide_true, Bool.true_or, if_true, List.nil_append, Nat.lt_irrefl, decide_false, Bool.false_and, if_false, Bool.false_eq_true]
    congr 1
    apply List.filter_congr
    intro i hi
    obtain ⟨j, _, rfl⟩ := List.mem_map.1 hi
    rw [bit_x, hand]
    have : ¬ t + 1 + j = t := by omega
    simp [this]
  · apply Nat.eq_of_testBit_eq
    intro i
    have hs : 18446744073709551616 - 2 ^ t * (2 * q + 1) = 2 ^ 64 - ((2 ^ t * (2 * q + 1) - 1) + 1) := by
      have : (2:Nat) ^ 64 = 18446744073709551616 := by decide
      omega
    have hb : 2 ^ t * (2 * q + 1) - 1 < 2 ^ 64 := by
      have : (2:Nat) ^ 64 = 18446744073709551616 := by decide
      omega
    rw [Nat.testBit_and, hs, Nat.testBit_two_pow_sub_succ hb, bit_x, bit_pred, Nat.testBit_two_pow]
    by_cases h : i < t
    · have : ¬ t < i := by omega
      have : ¬ i = t := by omega
      have : ¬ t = i := by omega
      simp [*]
    · by_cases e : i = t
      · subst e; simp [ht]
      · have : t < i := by omega
        have : ¬ t = i := by omega
        simp [*]
        intro a _
        exact a
end Go.Proofs.YtlghmadoogblcaaDoor.OnesPlain
end
section
namespace Go.Proofs.YtlghmadoogblcaaDoorW.PrintWords
open Go.ChangeShapes Go.WideShapes
end Go.Proofs.YtlghmadoogblcaaDoorW.PrintWords
end
section
namespace Go.Proofs.YtlghmadoogblcaaDoor.Tz
open Go.RowKit
set_option linter.unusedVariables false
def tab : List Int := [0, 1, 56, 2, 57, 49, 28, 3, 61, 58, 42, 50, 38, 29, 17, 4, 62, 47, 59, 36, 45, 43, 51, 22, 53, 39, 33, 30, 24, 18, 12, 5, 63, 55, 48, 27, 60, 41, 37, 16, 46, 35, 44, 21, 52, 32, 23, 11, 54, 26, 40, 15, 34, 20, 31, 10, 25, 14, 19, 9, 13, 8, 7, 6]
def Tab (w : World) : Prop := Lib.TabIs Tryd.prog w "math/bits.deBruijn64tab" .u8 tab
theorem gTab : Tryd.prog.globalNamed "math/bits.deBruijn64tab" = some 0 := by decide +kernel
theorem Tab.on {w w' : World} (h : Tab w) (hb : Below w.heap.size w w') : Tab w' := by
  unfold Tab at h ⊢
  exact Lib.tabBelow_of_tabIs h _ hb
theorem tab_at : ∀ t : Fin 64, tab.getD ((2 ^ t.val * 285870213051353865) % 18446744073709551616 / 288230376151711744) 0 = (t.val : Int) := by decide +kernel
set_option maxHeartbeats 1000000 in
theorem tz (x : Nat) (hx : x < 18446744073709551616) (h0 : x ≠ 0) (w : World) (hT : Tab w) : ∃ t, t < 64 ∧ OnesPlain.ones x = t :: OnesPlain.ones (x &&& (x - 1)) ∧ x.testBit t = true ∧
    Calls Tryd.prog 35 #[.int .u64 (x : Int)] w fun e w' => e = .returned (.int .i64 (t : Int)) ∧ w' = w := by
  obtain ⟨t, ht, e1, e2, e3⟩ := OnesPlain.ones_step x hx h0
  refine ⟨t, ht, e1, e3, ?_⟩
  have hneg : IntKind.u64.wrap (-(x : Int)) = ((18446744073709551616 - x : Nat) : Int) := by
    simp [IntKind.wrap, IntKind.signed, IntKind.bits]
    omega
  have hand : Go.bits .and .u64 (x : Int) ((18446744073709551616 - x : Nat) : Int) = ((2 ^ t : Nat) : Int) := by
    rw [← e2]
    have hlt : x &&& (18446744073709551616 - x) < 18446744073709551616 := Nat.lt_of_le_of_lt Nat.and_le_left hx
    show IntKind.u64.wrap ((BitVec.ofInt 64 (x : Int) &&& BitVec.ofInt 64 ((18446744073709551616 - x : Nat) : Int)).toNat : Int) = _
    rw [BitVec.toNat_and, BitVec.ofInt_natCast, BitVec.ofInt_natCast, BitVec.toNat_ofNat, BitVec.toNat_ofNat, Nat.mod_eq_of_lt (by omega), Nat.mod_eq_of_lt (by omega)]
    simp [IntKind.wrap, IntKind.signed, IntKind.bits]
    omega
  obtain ⟨I, hI⟩ : ∃ I, (2 ^ t * 285870213051353865) % 18446744073709551616 / 288230376151711744 = I := ⟨_, rfl⟩
  have hI64 : I < 64 := by omega
  obtain ⟨P, hP⟩ : ∃ P : Nat, 2 ^ t = P := ⟨_, rfl⟩
  have hidx : IntKind.u64.wrap ((P : Int) * 285870213051353865) / 288230376151711744 = (I : Int) := by
    rw [← hI, ← hP]
    simp [IntKind.wrap, IntKind.signed, IntKind.bits]
  have hcell : w.cell? ⟨0, I, none⟩ = some (.int .u8 (t : Int)) := by
    have h := Lib.TabIs.cell hT gTab I (by simpa [tab] using hI64)
    rw [← hI, tab_at ⟨t, ht⟩] at h
    rw [← hI]
    exact h
  rw [hP] at hand
  have hx0 : ((x : Int) == 0) = false := beq_eq_false_iff_ne.2 (by omega)
  go_enter Tryd.func35, Tryd.ntmps35
  go_wp2
  go_ret
  exact ⟨rfl, rfl⟩
end Go.Proofs.YtlghmadoogblcaaDoor.Tz
end
section
namespace Go.Proofs.YtlghmadoogblcaaDoor.Bits1
open Go Go.RowKit Go.Shelf Go.Proofs.YtlghmadoogblcaaDoor.OnesPlain Go.Proofs.YtlghmadoogblcaaDoor.Tz
attribute [local go_sem] Oper.semAt_some
set_option linter.unusedVariables false
def plc (Wf : Nat → Nat) : Nat → List Int
  | 0 => []
  | i + 1 => plc Wf i ++ (ones (Wf i)).map (fun t : Nat => (64 * (i : Int) + (t : Int)))
theorem and_pred (x : Nat) (hx : x < 18446744073709551616) (h0 : x ≠ 0) : Go.bits .and .u64 (x : Int) ((x : Int) - 1) = ((x &&& (x - 1) : Nat) : Int) := by
  rw [show (x : Int) - 1 = ((x - 1 : Nat) : Int) by omega]
  have hlt : x &&& (x - 1) < 18446744073709551616 := Nat.lt_of_le_of_lt Nat.and_le_left hx
  show IntKind.u64.wrap ((BitVec.ofInt 64 (x : Int) &&& BitVec.ofInt 64 ((x - 1 : Nat) : Int)).toNat : Int) = _
  rw [BitVec.toNat_and, BitVec.ofInt_natCast, BitVec.ofInt_natCast, BitVec.toNat_ofNat, BitVec.toNat_ofNat, Nat.mod_eq_of_lt (by omega), Nat.mod_eq_of_lt (by omega)]
  simp [IntKind.wrap, IntKind.signed, IntKind.bits]
  omega
theorem Tab.blk {w w' : World} (h : Tab w) (e : w'.heap[0]? = w.heap[0]?) : Tab w' := by
  unfold Tab Lib.TabIs World.var? at h ⊢
  rw [gTab] at h ⊢
  simp only [Option.bind_some] at h ⊢
  rw [e]
  exact h
def KpB (S : List Nat) (W W' : World) : Prop := ∀ k ∈ S, W'.heap[k]? = W.heap[k]?
theorem KpB.refl (S : List Nat) (W : World) : KpB S W W := fun _ _ => rfl
theorem KpB.trans {S : List Nat} {A B C : World} (h : KpB S A B) (k : KpB S B C) : KpB S A C := fun i hi => (k i hi).trans (h i hi)
theorem plc_mono (Wf : Nat → Nat) (k : Nat) : ∀ d, plc Wf k <+: plc Wf (k + d)
  | 0 => List.prefix_refl _
  | d + 1 => List.IsPrefix.trans (plc_mono Wf k d) (List.prefix_append _ _)
theorem plc_prefix (Wf : Nat → Nat) (L k : Nat) (h : k < L) (p : List Nat) (t : Nat) (rest : List Nat) (e : ones (Wf k) = p ++ t :: rest) :
    (plc Wf k ++ p.map (fun t : Nat => (64 * (k : Int) + (t : Int)))) ++ [64 * (k : Int) + (t : Int)] <+: plc Wf L := by
  obtain ⟨d, rfl⟩ : ∃ d, L = k + 1 + d := ⟨L - (k + 1), by omega⟩
  refine List.IsPrefix.trans ?_ (plc_mono Wf (k + 1) d)
  show _ <+: plc Wf k ++ (ones (Wf k)).map _
  rw [e, List.append_assoc]
  refine (List.prefix_append_right_inj _).2 ?_
  rw [List.map_append, List.map_cons]
  exact ⟨rest.map (fun t : Nat => (64 * (k : Int) + (t : Int))), by simp⟩
theorem ones_len (x : Nat) : (ones x).length ≤ 64 := by
  have := List.length_filter_le (fun i => x.testBit i) (List.range 64)
  rw [List.length_range] at this
  exact this
theorem plc_len (Wf : Nat → Nat) : ∀ k, (plc Wf k).length ≤ 64 * k
  | 0 => Nat.le_refl _
  | k + 1 => by
    show (plc Wf k ++ (ones (Wf k)).map _).length ≤ _
    rw [List.length_append, List.length_map]
    have := plc_len Wf k
    have := ones_len (Wf k)
    omega
set_option maxRecDepth 100000 in
set_option maxHeartbeats 2000000 in
theorem bits1 (n : Nat) (hn : 1 ≤ n) (l Bs Bh L cap : Nat) (Wf : Nat → Nat) (hL : L ≤ 1025) (hW : ∀ i, i < L → Wf i < 18446744073709551616) (J Jx : List Int → World → Prop)
    (hY : ∀ pre x W, J pre W → pre ++ [x] <+: plc Wf L → pre.length < 65600 → YieldAt Fence.wide (n - 1) Tryd.prog l #[.int .i64 x] W fun e W' =>
      (e = .returned (.bool true) ∧ J (pre ++ [x]) W' ∧ KpB [Bs, Bh, 0] W W') ∨ (e = .returned (.bool false) ∧ Jx (pre ++ [x]) W'))
    (W : World) (hBs : W.cell? ⟨Bs, 0, none⟩ = some (.slice (some ⟨Bh, 0, none⟩) L cap)) (hc : ∀ j, j < L → W.cell? ⟨Bh, j, none⟩ = some (.int .u64 (Wf j : Int))) (hT : Tab W) (h0 : J [] W) :
    CallsIn Fence.wide n Tryd.prog 34 #[.func (.yield l) #[] #[], .pointer (some ⟨Bs, 0, none⟩)] W fun e W' => (∃ v, e = .returned v) ∧
      ((∃ ys, ys = plc Wf L ∧ J ys W') ∨ (∃ pre, pre <+: plc Wf L ∧ Jx pre W')) := by
  refine callsIn_of_wp Tryd.func34 rfl trivial ?_ rfl
  simp only [Tryd.ntmps34, List.size_toArray, List.length_cons, List.length_nil, Nat.reduceAdd, Nat.reduceSub, Array.replicate_succ, Array.replicate_zero, List.push_toArray, List.append_toArray, List.nil_append, List.cons_append]
  gi_wp2
  gi_loopw [7] (fun i wr => ∃ k : Nat, k ≤ L ∧ i = .int .i64 k ∧ J (plc Wf k) wr ∧ KpB [Bs, Bh, 0] W wr)
    (fun i _ => L - (intOf i).toNat)
  case atStart => exact ⟨0, Nat.zero_le _, rfl, h0, KpB.refl _ _⟩
  case round =>
    obtain ⟨k, hk, rfl, hJs, hnx⟩ := hrel
    by_cases hlt : k < L
    · have hcx : wr.cell? ⟨Bh, k, none⟩ = some (.int .u64 (Wf k : Int)) := by
        have h := hc k hlt
        unfold World.cell? at h ⊢
        rw [hnx Bh (by simp)]
        exact h
      gi_wp2
      gi_loopw [4] (fun v wx => ∃ (p : List Nat) (cur : Nat), v = .int .u64 (cur : Int) ∧ cur < 18446744073709551616 ∧ ones (Wf k) = p ++ ones cur ∧ J (plc Wf k ++ p.map (fun t : Nat => (64 * (k : Int) + (t : Int)))) wx ∧ KpB [Bs, Bh, 0] W wx)
        (fun v _ => (ones (intOf v).toNat).length)
      case atStart => exact ⟨[], Wf k, rfl, hW k hlt, rfl, by simpa using hJs, hnx⟩
      case round =>
        obtain ⟨p, cur, rfl, hcur, hon, hJp, hkx⟩ := hrel
        by_cases h0c : cur = 0
        · subst h0c
          gi_wp2
          go_roundw
          case rel =>
            refine ⟨k + 1, by omega, by simp, ?_, hkx⟩
            rw [ones_zero, List.append_nil] at hon
            show J (plc Wf k ++ (ones (Wf k)).map _) _
            rw [hon]
            exact hJp
          case measure => simp [intOf]; omega
        · obtain ⟨t, ht, ho1, hbt, hcall⟩ := tz cur hcur h0c wr (Tab.blk hT (hkx 0 (by simp)))
          obtain ⟨fn, tmps, assign, body, hy, hR⟩ := hY _ (64 * (k : Int) + (t : Int)) wr hJp (plc_prefix Wf L k hlt p t (ones (cur &&& (cur - 1))) (by rw [hon, ho1])) (by
            have h1 := plc_len Wf k
            have h2 := ones_len (Wf k)
            rw [hon, ho1, List.length_append, List.length_cons] at h2
            rw [List.length_append, List.length_map]
            omega)
          gi_wp2_with (refine ⟨trivial, ?_⟩; gi_at_call 35; refine (callsIn_wide.2 hcall).mono ?_; rintro e w' ⟨rfl, rfl⟩)
          refine hR.mono ?_
          rintro e W3 (⟨rfl, hJ3, hk3⟩ | ⟨rfl, hJx3⟩)
          · gi_wp2
            go_roundw
            case rel =>
              refine ⟨p ++ [t], cur &&& (cur - 1), ?_, Nat.lt_of_le_of_lt Nat.and_le_left hcur, by rw [hon, ho1]; simp, ?_, hkx.trans hk3⟩
              · rw [and_pred cur hcur h0c]
              · rw [List.map_append, ← List.append_assoc]
                exact hJ3
            case measure =>
              rw [and_pred cur hcur h0c]
              simp only [intOf, Int.toNat_natCast]
              rw [ho1]
              simp
          · gi_wp2
            refine bodyPost_ret (results_none rfl _ _ _) rfl ?_
            refine ⟨⟨_, rfl⟩, .inr ⟨_, ?_, hJx3⟩⟩
            exact plc_prefix Wf L k hlt p t (ones (cur &&& (cur - 1))) (by rw [hon, ho1])
    · obtain rfl : k = L := by omega
      gi_wp2
      go_end0
      exact ⟨⟨_, rfl⟩, .inl ⟨_, rfl, hJs⟩⟩
set_option maxRecDepth 100000 in
set_option maxHeartbeats 2000000 in
theorem bits0 (n : Nat) (l Bs cap : Nat) (A : Option Addr) (J : List Int → World → Prop) (W : World) (hBs : W.cell? ⟨Bs, 0, none⟩ = some (.slice A 0 cap)) (h0 : J [] W) :
    CallsIn Fence.wide n Tryd.prog 34 #[.func (.yield l) #[] #[], .pointer (some ⟨Bs, 0, none⟩)] W fun e W' => (∃ v, e = .returned v) ∧ J [] W' := by
  refine callsIn_of_wp Tryd.func34 rfl trivial ?_ rfl
  simp only [Tryd.ntmps34, List.size_toArray, List.length_cons, List.length_nil, Nat.reduceAdd, Nat.reduceSub, Array.replicate_succ, Array.replicate_zero, List.push_toArray, List.append_toArray, List.nil_append, List.cons_append]
  gi_wp2
  gi_loopw [7] (fun i wr => i = .int .i64 0 ∧ J [] wr) (fun _ _ => 0)
  case atStart => exact ⟨rfl, h0⟩
  case round =>
    obtain ⟨rfl, hJs⟩ := hrel
    gi_wp2
    go_end0
    exact ⟨⟨_, rfl⟩, hJs⟩
abbrev Pl (Wf : Nat → Nat) (L : Nat) := { x : Int // x ∈ plc Wf L }
theorem stops (n : Nat) (hn : 1 ≤ n) (Bs Bh L cap : Nat) (A : Option Addr) (Wf : Nat → Nat) (hL : L ≤ 1025) (hW : ∀ i, i < L → Wf i < 18446744073709551616) (w : World) (hBl : Bs < w.heap.size) (hBs : w.cell? ⟨Bs, 0, none⟩ = some (.slice A L cap)) (hA : 0 < L → A = some ⟨Bh, 0, none⟩ ∧ Bh < w.heap.size)
    (hc : ∀ j, j < L → w.cell? ⟨Bh, j, none⟩ = some (.int .u64 (Wf j : Int))) (hT : Tab w) :
    SeqStopsK Fence.wide n Tryd.prog 34 #[.pointer (some ⟨Bs, 0, none⟩)] (fun x : Pl Wf L => #[Value.int .i64 x.1]) (KpB [Bs, Bh, 0]) (fun ys => ys.map (·.1) = plc Wf L) (fun pre => pre.map (·.1) <+: plc Wf L) 65600 w := fun l J Jx W hb _ _ hY h0 => by
  have hBs' := (hb.cell (p := ⟨Bs, 0, none⟩) hBl).trans hBs
  by_cases h : 0 < L
  · obtain ⟨rfl, hBh⟩ := hA h
    refine (bits1 n hn l Bs Bh L cap Wf hL hW (fun pre W => ∃ ps : List (Pl Wf L), ps.map (·.1) = pre ∧ J ps W) (fun pre W => ∃ ps : List (Pl Wf L), ps.map (·.1) = pre ∧ Jx ps W) ?_ W hBs' (fun j hj => (hb.cell (p := ⟨Bh, j, none⟩) hBh).trans (hc j hj)) (hT.on hb) ⟨[], rfl, h0⟩).mono ?_
    · rintro pre x W2 ⟨ps, rfl, hJ⟩ hpx hlen
      have hx : x ∈ plc Wf L := hpx.subset (by simp)
      obtain ⟨fn, tmps, assign, body, hy, hR⟩ := hY ps ⟨x, hx⟩ W2 hJ (by simpa using hlen)
      refine ⟨fn, tmps, assign, body, hy, hR.mono ?_⟩
      rintro e W3 (⟨rfl, hJ3, hk⟩ | ⟨rfl, hJ3⟩)
      · exact .inl ⟨rfl, ⟨ps ++ [⟨x, hx⟩], by simp, hJ3⟩, hk⟩
      · exact .inr ⟨rfl, ⟨ps ++ [⟨x, hx⟩], by simp, hJ3⟩⟩
    · rintro e W2 ⟨hv, (⟨ys, rfl, ps, e1, hj⟩ | ⟨pre, hp, ps, rfl, hj⟩)⟩
      · exact ⟨hv, .inl ⟨ps, e1, hj⟩⟩
      · exact ⟨hv, .inr ⟨ps, hp, hj⟩⟩
  · obtain rfl : L = 0 := by omega
    exact (bits0 n l Bs cap A (fun pre W => J [] W) W hBs' h0).mono fun e W' ⟨he, hj⟩ => ⟨he, .inl ⟨[], rfl, hj⟩⟩
end Go.Proofs.YtlghmadoogblcaaDoor.Bits1
end
section
namespace Go.Proofs.YtlghmadoogblcaaDoor.BitsAll
open Go Go.RowKit Go.Proofs.YtlghmadoogblcaaDoorW.PrintWords Go.Proofs.YtlghmadoogblcaaDoorW.PrintLast Go.Proofs.YtlghmadoogblcaaDoorW.PrintMore Go.Proofs.YtlghmadoogblcaaDoor.PW Go.Proofs.YtlghmadoogblcaaDoor.Bits1 Go.Proofs.YtlghmadoogblcaaDoor.Bx
set_option linter.unusedVariables false
set_option linter.unusedSimpArgs false
def Held (n0 : Nat) (e : Ending) (xs : List Int) (W : World) : Prop := ∃ Bs A c, e = .returned (.func (.func 34) #[] #[.pointer (some ⟨Bs, 0, none⟩)]) ∧ n0 ≤ Bs ∧ Bx W Bs #[.slice A xs.length c] ∧ W.ownsRow n0 58 1 (.slice A xs.length c) xs.length (nums .u64 xs)
theorem own_of_R {W : World} {base : Nat} {ok : Nat → Prop} {v : Value} {xs : List Int} (h : Kd.R (Kd.int .u64) 58 W base ok v xs) : W.ownsRow base 58 1 v xs.length (nums .u64 xs) := Kd.own_of_R (enc := Value.int .u64) (h1 := fun _ => rfl) h
theorem chain_ {w w1 w2 : World} (h : Below w.heap.size w w1) (k : Below w1.heap.size w1 w2) : Below w.heap.size w w2 := below_then h h.size k
theorem ty_of {W : World} {g : Nat} {cs : Array Value} {t : TypeId} (h : W.heap[g]? = some (.cells cs t (0, 0))) (t' : TypeId) (h' : W.heap[g]? = some (.cells cs t' (0, 0))) : t' = t := by
  rw [h] at h'
  injection h' with h'
  injection h' with _ h'
  exact h'.symm
theorem own_set_other {W : World} {base g n i : Nat} {e t : TypeId} {v u : Value} {xs : List Value} {c : Array Value} {fz : Nat × Nat} (h : W.ownsRow base e 1 v n xs) (hg : W.heap[g]? = some (.cells c t fz)) (hne : e ≠ t) : (W.setCell ⟨g, i, none⟩ u).ownsRow base e 1 v n xs := by
  refine own_move h (fun k hk => Below.heap_setCell _ ⟨g, i, none⟩ _ _ ?_)
  rintro rfl
  obtain ⟨c', hc⟩ := own_typed h k hk
  rw [hg] at hc
  injection hc with hc
  injection hc with _ hc
  exact hne hc.symm
theorem field_row (x y : Value) (w : World) : (Instr.field 24 (.agg #[x, y]) 1).run Tryd.prog w = .ok y w := by kernel_rfl
set_option maxHeartbeats 2000000 in
set_option maxRecDepth 100000 in
theorem bits_ok (a0 : Int) (A0 : Option Addr) (c0 : Nat) (l0 : List Int) (m : Int) (xs : List Int) (w : World) (hr : Kd.C (Kd.int .u64) w A0 l0.length l0) (hc : l0.length ≤ c0) (hV : words_Valid.f a0 l0 = some true) (hC : words_clone.f a0 l0 = some (m, xs)) :
    Calls Tryd.prog 12 #[.agg #[.int .i64 a0, .slice A0 l0.length c0]] w fun e w' => Held w.heap.size e xs w' ∧ Below w.heap.size w w' := by
  have HR := Aside0.mk hr; have HV := Aside0.mk hV; have HC := Aside0.mk hC
  clear hr hV hC
  have hu := Tryd.underlying24
  have hu2 := Tryd.underlying22
  have hfr := field_row
  go_enter Tryd.func12, Tryd.ntmps12
  go_wp2_with (first
    | (go_at_call 29; (with_reducible refine (words_Valid.calls a0 A0 c0 l0 true _ ?s1 hc HV.out).mono ?_); (case s1 => exact Kd.C_alloc HR.out _); rintro e w1 ⟨rfl, hb⟩; have HB := Aside0.mk hb; have hbx := (Bx.new w #[.int .i64 a0, .slice A0 l0.length c0] 24).on hb; have b0_ := hbx.c 0 _ rfl; have b1_ := hbx.c 1 _ rfl; clear hb)
    | (go_at_call 33; (with_reducible refine (words_clone.calls a0 A0 c0 l0 m xs _ ?s2 hc HC.out).mono ?_); (case s2 => exact Kd.C_below (Kd.C_alloc HR.out _) HB.out); clear b0_ b1_; rintro e w2 ⟨v, rfl, hv, hb⟩; have HB2 := Aside0.mk hb; have ho := own_of_R hv; obtain ⟨A2, c2, rfl⟩ := own_slice ho; have HO := Aside0.mk ho; clear hb hv ho)
    | ((with_reducible refine gate_dst (N := 3) rfl ?_); refine box_event ?hg (N := 3) ?hd (cs := #[.slice none 0 0]) (t := 22) ?hr ?_; (case hd => rfl); (case hg => rfl); (case hr => first | (go_simp; done) | (go_simp; rfl)); intro gb hg w3 hbox hb; have HB3 := Aside0.mk hb; have HX := Aside0.mk (show Bx w3 gb #[.slice none 0 0] from ⟨_, hbox⟩); have hty := ty_of hbox; have HG := Aside0.mk hg; have b2_ := (show Bx w3 gb #[.slice none 0 0] from ⟨_, hbox⟩).c 0 _ rfl; have z2_ := (show Bx w3 gb #[.slice none 0 0] from ⟨_, hbox⟩).fz 0; clear hb hbox hg))
  refine bodyPost_ret (results_tmp (t := 2) rfl _ _ _) rfl ?_
  have hB0 := below_alloc (Below.refl w.heap.size w) (.cells #[.int .i64 a0, .slice A0 l0.length c0] 24)
  have hB1 := chain_ hB0 HB.out
  have hB2 := chain_ hB1 HB2.out
  have hB3 := chain_ hB2 HB3.out
  have hg : w.heap.size ≤ gb := by have h := HG.out; have := hB2.size; omega
  obtain ⟨t, hx⟩ := HX.out
  have ht : t = 22 := hty t hx
  subst ht
  exact ⟨⟨gb, A2, c2, rfl, hg, HX.out.set 0 _ rfl, own_set_other (own_weaken (pw_own_below HO.out HB3.out) hB1.size) hx (by decide)⟩, below_set hB3 hg⟩
end Go.Proofs.YtlghmadoogblcaaDoor.BitsAll
end
section
namespace Go.Proofs.YtlghmadoogblcaaDoor.Turned
open Go Go.RowKit Go.Shelf Go.Proofs.YtlghmadoogblcaaDoorW.PrintWords Go.Proofs.YtlghmadoogblcaaDoorW.PrintLast Go.Proofs.YtlghmadoogblcaaDoorW.PrintMore Go.Proofs.YtlghmadoogblcaaDoor.PW Go.Proofs.YtlghmadoogblcaaDoor.OnesPlain Go.Proofs.YtlghmadoogblcaaDoor.Tz Go.Proofs.YtlghmadoogblcaaDoor.Bits1 Go.Proofs.YtlghmadoogblcaaDoor.Bx Go.Proofs.YtlghmadoogblcaaDoor.BitsAll
attribute [local go_sem] Oper.semAt_some
set_option linter.unusedVariables false
set_option linter.unusedSimpArgs false
def wf (l : List Int) (i : Nat) : Nat := (l.getD i 0).toNat
def setb (ts : List Int) (k : Nat) : List Int := ts.set (k / 64) (Go.bits .or .u64 (ts.getD (k / 64) 0) ((2 : Int) ^ (k % 64)))
def turnTo (a0 : Int) (zs : List Int) (pre : List Int) : List Int := pre.foldl (fun ts x => setb ts (a0 - 1 - x).toNat) zs
theorem turnTo_snoc (a0 : Int) (zs pre : List Int) (x : Int) : turnTo a0 zs (pre ++ [x]) = setb (turnTo a0 zs pre) (a0 - 1 - x).toNat := by
  unfold turnTo
  rw [List.foldl_append]
  rfl
theorem setb_len (ts : List Int) (k : Nat) : (setb ts k).length = ts.length := by simp [setb]
theorem turnTo_len (a0 : Int) (zs : List Int) (pre : List Int) : (turnTo a0 zs pre).length = zs.length := by
  unfold turnTo
  induction pre generalizing zs with
  | nil => rfl
  | cons x p ih => rw [List.foldl_cons, ih, setb_len]
theorem Bx.kept {W W' : World} {row : Option Nat} {b : Nat} {vs : Array Value} (h : Bx W b vs) (hg : W.grownBy W' row) (hr : ∀ r, row = some r → ∃ o : Obj, W.heap[r]? = some o ∧ o.isCells = false) : Bx W' b vs := by
  obtain ⟨t, h⟩ := h
  refine ⟨t, blk_grown h hg ?_⟩
  intro e
  obtain ⟨o, ho, hc⟩ := hr b e.symm
  rw [h] at ho
  cases ho
  simp [Obj.isCells] at hc
theorem own_kept {W W' : World} {row : Option Nat} {base : Nat} {v : Value} {n : Nat} {xs : List Value} (h : W.ownsRow base 58 1 v n xs) (hg : W.grownBy W' row) (hr : ∀ r, row = some r → ∃ o : Obj, W.heap[r]? = some o ∧ o.isCells = false) : W'.ownsRow base 58 1 v n xs := by
  refine own_move h (fun k hk => ?_)
  obtain ⟨c, hc⟩ := own_typed h k hk
  refine (blk_grown hc hg ?_).trans hc.symm
  intro e
  obtain ⟨o, ho, hcc⟩ := hr k e.symm
  rw [hc] at ho
  cases ho
  simp [Obj.isCells] at hcc
theorem cell_lt {w : World} {p : Addr} {v : Value} (h : w.cell? p = some v) : p.block < w.heap.size := by
  unfold World.cell? at h
  split at h
  · rename_i o ho
    exact (Array.getElem?_eq_some_iff.1 ho).1
  · cases h
theorem nums_at_ (l : List Int) (j : Nat) (h : j < l.length) : (nums .u64 l)[j]? = some (.int .u64 (l.getD j 0)) := by
  simp [nums, List.getD_eq_getElem?_getD, List.getElem?_eq_getElem h]
theorem own_frozen {w : World} {base g n m c : Nat} {xs : List Value} (h : w.ownsRow base 58 1 (.slice (some ⟨g, 0, none⟩) m c) n xs) (j : Nat) : w.frozen? ⟨g, j, none⟩ = false := by
  rcases h.2 with ⟨h', _⟩ | ⟨g', cap', cur, h', _, hh, _⟩
  · cases h'
  · have : g = g' := by injection h' with h'; injection h' with h'; injection h' with h'
    subst this
    simp [World.frozen?, hh]
theorem wpIn_round (F : Fence) (l n : Nat) (P : Program) (o : Oper) (a : Act) (w : World) (K : Act → World → Prop) (Q : Exit → Act → World → Prop) (hro : F.round = none) (hd : ∀ c, o.op ≠ .defer c) : o.wpIn (F.inRound l) n P a w K Q = o.wpIn F n P a w K Q := by
  unfold Oper.wpIn
  rw [hro, Fence.inRound_round, Oper.semAt_none, Oper.semAt_some l _ _ hd]
  rfl
theorem wpAny_round (F : Fence) (l n : Nat) (P : Program) (ops : Array Oper) (Q : Exit → Act → World → Prop) (hro : F.round = none) (hd : ∀ (i : Nat) (o : Oper), ops[i]? = some o → ∀ c, o.op ≠ .defer c) :
    ∀ (fuel : Nat) (listed : Array Bool) (a : Act) (w : World), wpAnyIn (F.inRound l) n P .any ops Q fuel listed a w = wpAnyIn F n P .any ops Q fuel listed a w
  | 0, _, _, _ => rfl
  | fuel + 1, listed, a, w => by
    unfold wpAnyIn
    have ih : wpAnyIn (F.inRound l) n P .any ops Q fuel = wpAnyIn F n P .any ops Q fuel := by
      funext a b c
      exact wpAny_round F l n P ops Q hro hd fuel a b c
    rw [ih]
    refine congrArg _ ?_
    refine forall_congr fun i => forall_congr fun hi => ?_
    unfold wpOpIn
    cases e : ops[i]? with
    | none => rfl
    | some o =>
      show (if _ then _ else _) = (if _ then _ else _)
      split
      · exact wpIn_round F l n P o a w _ Q hro (hd i o e)
      · rfl
def noDefer (ops : Array Oper) : Bool := ops.all fun o => match o.op with | .defer _ => false | _ => true
theorem noDefer_spec {ops : Array Oper} (h : noDefer ops = true) (i : Nat) (o : Oper) (e : ops[i]? = some o) : ∀ c, o.op ≠ .defer c := by
  intro c hc
  unfold noDefer at h
  rw [Array.all_eq_true] at h
  obtain ⟨hi, e⟩ := Array.getElem?_eq_some_iff.1 e
  have h1 := h i hi
  rw [e, hc] at h1
  cases h1
theorem region_round {F : Fence} {l n id : Nat} {P : Program} {ops : Array Oper} {Q : Exit → Act → World → Prop} {a : Act} {w : World} (hm : P.follows .mixedOrders = true) (hro : F.round = none) (hd : noDefer ops = true)
    (h : wpAnyIn F n P .any ops Q ops.size (Array.replicate ops.size false) a w.drew) : (Code.region id ops true).wpIn (F.inRound l) n P Q a w := by
  refine wpIn_region_any hm ?_
  rw [wpAny_round F l n P ops Q hro (noDefer_spec hd)]
  exact h
theorem wrap_pow (t : Nat) (h : t < 64) : IntKind.u64.wrap ((2 : Int) ^ t) = (2 : Int) ^ t := by
  have h1 : (2 : Int) ^ t < 2 ^ 64 := Int.pow_lt_pow_of_lt (by decide) h
  have h0 : (0 : Int) < 2 ^ t := Int.pow_pos (by decide)
  simp [IntKind.wrap, IntKind.signed, IntKind.bits]
  omega
theorem tab_size {w : World} (h : Tab w) : 0 < w.heap.size := by
  have h0 := Lib.TabIs.cell h gTab 0 (by decide)
  exact cell_lt h0
theorem start (w w1 w2 : World) (o o' o'' : Obj) (h : Below ((w.alloc o).alloc o').heap.size ((w.alloc o).alloc o') w1) (h2 : Below w1.heap.size w1 w2) : Below w.heap.size w (w2.alloc o'') := by
  have a := below_alloc (below_alloc (Below.refl w.heap.size w) o) o'
  exact below_alloc (chain_ (chain_ a h) h2) o''
set_option maxHeartbeats 4000000 in
set_option maxRecDepth 100000 in
theorem turned_ok (a0 : Int) (A0 : Option Addr) (c0 : Nat) (l0 zs : List Int) (m : Int) (w : World) (hr : Kd.C (Kd.int .u64) w A0 l0.length l0) (hc : l0.length ≤ c0) (hV : words_Valid.f a0 l0 = some true) (hC : words_clone.f a0 l0 = some (m, l0)) (hZ : words_blank.f a0 = some (a0, zs))
    (hT : Tab w) (hn : 0 ≤ a0 ∧ a0 ≤ 65538) (hL : l0.length ≤ 1025) (hLz : zs.length = l0.length) (hL64 : a0 ≤ 64 * l0.length) (hU : ∀ i, i < l0.length → 0 ≤ l0.getD i 0 ∧ l0.getD i 0 < 18446744073709551616) (hP : ∀ x ∈ plc (wf l0) l0.length, 0 ≤ x ∧ x < a0) :
    Calls Tryd.prog 21 #[.agg #[.int .i64 a0, .slice A0 l0.length c0]] w fun e w' => ∃ v : Value, e = .returned (.tuple #[.agg #[.int .i64 a0, v], .int .i64 0]) ∧ w'.ownsRow w.heap.size 58 1 v l0.length (nums .u64 (turnTo a0 zs (plc (wf l0) l0.length))) ∧ Below w.heap.size w w' := by
  have HR := Aside0.mk hr; have HV := Aside0.mk hV; have HC := Aside0.mk hC; have HZ := Aside0.mk hZ; have HT := Aside0.mk hT
  clear hr hV hC hZ hT
  have hu := Tryd.underlying24
  have hu2 := Tryd.underlying22
  have hz := Tryd.zeroValue24
  refine (callsIn_wide (n := 3)).1 ?_
  refine callsIn_of_wp_marks Tryd.func21 rfl trivial ?_ rfl
  simp only [Tryd.ntmps21, List.size_toArray, List.length_cons, List.length_nil, Nat.reduceAdd, Nat.reduceSub, Array.replicate_succ, Array.replicate_zero, List.push_toArray, List.append_toArray, List.nil_append, List.cons_append]
  gi_wp2_with (first
    | (refine ⟨trivial, ?_⟩; gi_at_call 29; refine (callsIn_wide.2 (words_Valid.calls a0 A0 c0 l0 true _ ?s1 hc HV.out)).mono ?_; (case s1 => exact Kd.C_alloc (Kd.C_alloc HR.out _) _); rintro e w1 ⟨rfl, hb⟩; have HB := Aside0.mk hb; have hr1 := (((Bx.new w #[.int .i64 a0, .slice A0 l0.length c0] 24).alloc (.cells #[.int .i64 0, .slice none 0 0] 24)).on hb); have hq1 := ((Bx.new2 w (.cells #[.int .i64 a0, .slice A0 l0.length c0] 24) #[.int .i64 0, .slice none 0 0] 24).on hb); have b0_ := hr1.c 0 _ rfl; clear hb)
    | (refine ⟨trivial, ?_⟩; gi_at_call 32; refine (callsIn_wide.2 (words_blank.calls a0 a0 zs _ HZ.out)).mono ?_; clear b0_; rintro e w2 ⟨v, rfl, hv, hb⟩; have ho := own_of_R hv; obtain ⟨A2, c2, rfl⟩ := own_slice ho; have HO := Aside0.mk ho; have HB2 := Aside0.mk hb; have hr2 := hr1.on hb; have hq2 := hq1.on hb; have b0_ := hr2.c 0 _ rfl; have b1_ := hr2.c 1 _ rfl; have lt_ := hr2.lt; have ne_ := Nat.ne_of_lt lt_; clear hb hv ho)
    | (refine ⟨trivial, ?_⟩; gi_at_call 12; refine (callsIn_wide.2 (bits_ok a0 A0 c0 l0 m l0 _ ?s3 hc HV.out HC.out)).mono ?_; (case s3 => exact Kd.C_below HR.out (start w w1 w2 _ _ _ HB.out HB2.out)); clear b0_ b1_; rintro e w4 ⟨⟨Bs, A3, c3, rfl, hge, hbs, hown⟩, hb⟩; have HB4 := Aside0.mk (chain_ (start w w1 w2 _ _ _ HB.out HB2.out) hb); have HBC := Aside0.mk hb; have hr4 := (hr2.alloc _).on hb; have hq4 := (hq2.alloc _).on hb; have hk4 := (Bx.new w2 #[.int .i64 a0, .slice A2 l0.length c2] 24).on hb; have HN := Aside0.mk hown; have HG := Aside0.mk hge; clear hb hown hge))
  have O4 := Aside0.mk (own_weaken (pw_own_below (pw_own_below HO.out (below_alloc (Below.refl _ _) _)) HBC.out) (below_alloc (below_alloc (Below.refl w.heap.size w) _) _ |> fun a => (chain_ a HB.out).size))
  rw [hLz] at O4
  have hL1 := O4.out
  obtain ⟨gw, hgw⟩ : ∃ gw, 0 < l0.length → A2 = some ⟨gw, 0, none⟩ ∧ w1.heap.size ≤ gw ∧ gw < w2.heap.size := by
    by_cases h0 : 0 < l0.length
    · obtain ⟨f, cp, e, hf⟩ := HO.out.form (show 0 < zs.length by omega)
      injection e with e1
      exact ⟨f, fun _ => ⟨e1, hf.1, hf.2⟩⟩
    · exact ⟨0, fun h => absurd h h0⟩
  have hsz : 0 < w4.heap.size := Nat.lt_of_le_of_lt (Nat.zero_le _) hr4.lt
  have hsz2 : w2.heap.size + 1 ≤ Bs := by simpa using HG.out
  obtain ⟨gh, hgl, hgh⟩ : ∃ gh, gh < w4.heap.size ∧ (0 < l0.length → A3 = some ⟨gh, 0, none⟩ ∧ w2.heap.size + 1 ≤ gh) := by
    by_cases h0 : 0 < l0.length
    · obtain ⟨f, cp, e, hf⟩ := HN.out.form h0
      injection e with e1
      exact ⟨f, hf.2, fun _ => ⟨e1, by simpa using hf.1⟩⟩
    · exact ⟨0, hsz, fun h => absurd h h0⟩
  have hcell : ∀ j, j < l0.length → w4.cell? ⟨gh, j, none⟩ = some (.int .u64 (wf l0 j : Int)) := by
    intro j hj
    obtain ⟨e, -⟩ := hgh (by omega)
    subst e
    have h := HN.out.cells (g := gh) rfl j (.int .u64 (l0.getD j 0)) (nums_at_ l0 j hj)
    rw [show (⟨gh, 0, none⟩ : Addr).add j = ⟨gh, j, none⟩ by cases j <;> simp [Addr.add]] at h
    rw [h]
    unfold wf
    rw [Int.toNat_of_nonneg (hU j hj).1]
  have hwf : ∀ i, i < l0.length → wf l0 i < 18446744073709551616 := fun i hi => by
    have := hU i hi
    unfold wf
    omega
  have ht0 : 0 < w.heap.size := tab_size HT.out
  refine wpIn_rangeFunc_ownF (α := Pl (wf l0) l0.length) rfl (by decide) (gf := 34) (lb := #[.pointer (some ⟨Bs, 0, none⟩)]) rfl trivial (enters_of Tryd.func34 (by kernel_rfl) rfl)
    (stops 2 (by decide) Bs gh l0.length c3 A3 (wf l0) hL hwf w4 hbs.lt (hbs.c 0 _ rfl) (fun h => ⟨(hgh h).1, hgl⟩) hcell (HT.out.on HB4.out)) (fun h k => KpB.trans h k) ?kb (Below.refl _ _) (fun _ => rfl)
    (fun pre W => (Bx W w.heap.size #[.int .i64 a0, .slice A0 l0.length c0] ∧ Bx W (w.heap.size + 1) #[.int .i64 0, .slice none 0 0] ∧ Bx W w2.heap.size #[.int .i64 a0, .slice A2 l0.length c2] ∧ W.ownsRow w.heap.size 58 1 (.slice A2 l0.length c2) l0.length (nums .u64 (turnTo a0 zs (pre.map (·.1))))) ∧ Below w.heap.size w W)
    (fun _ _ _ => False)
    (OwnFrom.and (Own.from (fun s A B row hs hg hr => ⟨Bx.kept hs.1 hg hr, Bx.kept hs.2.1 hg hr, Bx.kept hs.2.2.1 hg hr, own_kept hs.2.2.2 hg hr⟩) _) (ownFrom_below (Nat.le_refl _) HB4.out.size))
    (fun _ _ _ _ _ hs _ _ => hs)
    ⟨⟨hr4, hq4, hk4, O4.out⟩, HB4.out⟩
    (fun x => { tmps := #[.agg #[.int .i64 a0, .slice A0 l0.length c0], .pointer (some ⟨w.heap.size, 0, none⟩), .pointer (some ⟨w.heap.size + 1, 0, none⟩), .int .i64 0, .pointer (some ⟨w2.heap.size, 0, none⟩), .int .i64 x.1, undef, .agg #[.int .i64 a0, .slice A0 l0.length c0], .bool true, .bool false, undef, .pointer (some ⟨w.heap.size, 0, none⟩), .int .i64 a0, .agg #[.int .i64 a0, .slice A2 l0.length c2], .agg #[.int .i64 a0, .slice A0 l0.length c0], .func (.func 34) #[] #[.pointer (some ⟨Bs, 0, none⟩)], .int .i64 x.1, undef, undef, undef, undef, undef, undef, undef, undef, undef, undef, undef, undef, undef, undef, undef, undef, undef], defers := [] }) ?assign ?body ?done ?stop
  case kb =>
    intro W l o o' hl h1 h2 h3 k hk
    refine World.putObj_heap_other ?_
    have := hbs.lt
    simp at hk
    omega
  case assign =>
    intro l x W K hK
    gi_wp2
    exact hK
  case stop =>
    rintro D c pre W _ _ h _
    exact h.elim
  case body =>
    rintro l pre ⟨x, hx⟩ W ⟨⟨hr, hq, hkx, ho⟩, hB⟩ _
    have b0_ := hr.c 0 _ rfl; have b1_ := hr.c 1 _ rfl; have k0_ := hkx.c 0 _ rfl; have k1_ := hkx.c 1 _ rfl
    have hx0 := hP x hx
    gi_wp2
    have hl0 : 0 < l0.length := by omega
    obtain ⟨rfl, hg1, hg2⟩ := hgw hl0
    obtain ⟨kk, hkk⟩ : ∃ kk : Nat, (kk : Int) = a0 - 1 - x := ⟨(a0 - 1 - x).toNat, by omega⟩
    have hq1_ : kk / 64 < l0.length := by omega
    have hcz := ho.cells (g := gw) rfl (kk / 64) _ (nums_at_ (turnTo a0 zs (pre.map (·.1))) (kk / 64) (by rw [turnTo_len, hLz]; exact hq1_))
    rw [show (⟨gw, 0, none⟩ : Addr).add (kk / 64) = ⟨gw, kk / 64, none⟩ by cases (kk / 64) <;> simp [Addr.add]] at hcz
    have hfz := own_frozen ho (kk / 64)
    obtain ⟨cur, hcur⟩ : ∃ cur, (turnTo a0 zs (pre.map (·.1))).getD (kk / 64) 0 = cur := ⟨_, rfl⟩
    rw [hcur] at hcz
    rw [← hkk]
    have hd0 : (0 : Int) ≤ (kk : Int) / 64 := by omega
    have hd1 : (kk : Int) / 64 < (l0.length : Int) := by omega
    have hdw : IntKind.i64.wrap ((kk : Int) / 64) = ((kk / 64 : Nat) : Int) := by simp [IntKind.wrap, IntKind.signed, IntKind.bits]; omega
    have htm : (kk : Int).tmod 64 = ((kk % 64 : Nat) : Int) := by rw [Int.tmod_eq_emod_of_nonneg (by omega)]; omega
    have hdl : ((kk / 64 : Nat) : Int) < (l0.length : Int) := by omega
    have hkn : ((kk : Int) / 64).toNat = kk / 64 := by omega
    have hk65 : (kk : Int) < 65538 := by omega
    have HKK := Aside0.mk hkk
    clear hkk
    refine region_round (by kernel_rfl) rfl (by kernel_rfl) ?_
    refine wpAnyIn_take (i := 0) (v := ?_) rfl rfl (by kernel_rfl) (by kernel_rfl) (by kernel_rfl) (fun _ _ _ h => h) ⟨Or.inl ⟨by rfl, ?_⟩, fun _ => rfl⟩ ?_
    rotate_left
    · intro w_
      go_simp
      try (with_reducible rfl)
    refine wpAnyIn_take (i := 2) (v := ?_) rfl rfl (by kernel_rfl) (by kernel_rfl) (by kernel_rfl) (fun _ _ _ h => h) ⟨Or.inl ⟨by rfl, ?_⟩, fun _ => rfl⟩ ?_
    rotate_left
    · intro w_
      go_simp
      try (with_reducible rfl)
    refine wpAnyIn_take (i := 6) (v := ?_) rfl rfl (by kernel_rfl) (by kernel_rfl) (by kernel_rfl) (fun _ _ _ h => h) ⟨Or.inl ⟨by rfl, ?_⟩, fun _ => rfl⟩ ?_
    rotate_left
    · intro w_
      go_simp
      try (with_reducible rfl)
    refine wpAnyIn_take (i := 3) (v := ?_) rfl rfl (by kernel_rfl) (by kernel_rfl) (by kernel_rfl) (fun _ _ _ h => h) ⟨Or.inl ⟨by rfl, ?_⟩, fun _ => rfl⟩ ?_
    rotate_left
    · intro w_
      go_simp
      try (with_reducible rfl)
    refine wpAnyIn_take (i := 7) (v := ?_) rfl rfl (by kernel_rfl) (by kernel_rfl) (by kernel_rfl) (fun _ _ _ h => h) ⟨Or.inl ⟨by rfl, ?_⟩, fun _ => rfl⟩ ?_
    rotate_left
    · intro w_
      go_simp
      try (with_reducible rfl)
    refine wpAnyIn_take (i := 8) (v := ?_) rfl rfl (by kernel_rfl) (by kernel_rfl) (by kernel_rfl) (fun _ _ _ h => h) ⟨Or.inl ⟨by rfl, ?_⟩, fun _ => rfl⟩ ?_
    rotate_left
    · intro w_
      go_simp
      try (with_reducible rfl)
    refine wpAnyIn_ready (rs := [1]) (by kernel_rfl) (by simp) ?_
    refine AllReadyIn.cons rfl (fun K_ hK_ => ?_) AllReadyIn.nil
    go_simp
    refine hK_ _ _ ?_
    clear hK_ K_
    refine wpAnyIn_take (i := 4) (v := ?_) rfl rfl (by kernel_rfl) (by kernel_rfl) (by kernel_rfl) (fun _ _ _ h => h) ⟨Or.inl ⟨by rfl, ?_⟩, fun _ => rfl⟩ ?_
    rotate_left
    · intro w_
      go_simp
      try (with_reducible rfl)
    refine wpAnyIn_ready (rs := [5]) (by kernel_rfl) (by simp) ?_
    refine AllReadyIn.cons rfl (fun K_ hK_ => ?_) AllReadyIn.nil
    go_simp
    refine hK_ _ _ ?_
    clear hK_ K_
    refine wpAnyIn_take (i := 9) (v := ?_) rfl rfl (by kernel_rfl) (by kernel_rfl) (by kernel_rfl) (fun _ _ _ h => h) ⟨Or.inl ⟨by rfl, ?_⟩, fun _ => rfl⟩ ?_
    rotate_left
    · intro w_
      go_simp
      try (with_reducible rfl)
    refine wpAnyIn_take (i := 10) (v := ?_) rfl rfl (by kernel_rfl) (by kernel_rfl) (by kernel_rfl) (fun _ _ _ h => h) ⟨Or.inl ⟨by rfl, ?_⟩, fun _ => rfl⟩ ?_
    rotate_left
    · intro w_
      go_simp
      try (with_reducible rfl)
    refine wpAnyIn_ready (rs := [11]) (by kernel_rfl) (by simp) ?_
    refine AllReadyIn.cons rfl (fun K_ hK_ => ?_) AllReadyIn.nil
    go_simp
    refine hK_ _ _ ?_
    clear hK_ K_
    refine wpAnyIn_done (by kernel_rfl) ?_ _
    have hw1 := hq1.lt
    have hB1 := (chain_ (below_alloc (below_alloc (Below.refl w.heap.size w) (.cells #[.int .i64 a0, .slice A0 l0.length c0] 24)) (.cells #[.int .i64 0, .slice none 0 0] 24)) HB.out).size
    have hk := HKK.out
    have hn1 : (2 : Int) ^ ((kk : Int) % 64).toNat = (2 : Int) ^ (kk % 64) := by rw [show ((kk : Int) % 64).toNat = kk % 64 by omega]
    have hn2 : IntKind.u64.wrap ((2 : Int) ^ (kk % 64)) = (2 : Int) ^ (kk % 64) := wrap_pow (kk % 64) (by omega)
    rw [hn1, hn2]
    show KeepsOthers W _ ∧ KpB [Bs, gh, 0] W _ ∧ _ ∧ _
    refine ⟨(KeepsOthers.setCell W _ _).trans (KeepsOthers.drew _), ?_, ⟨?_, ?_, ?_, ?_⟩, ?_⟩
    · intro k hk
      have h2 := (hgh hl0).2
      have h3 : k ≠ gw := by
        simp at hk
        omega
      exact Below.heap_setCell W ⟨gw, kk / 64, none⟩ _ _ h3
    · exact Bx.far hr (p := ⟨gw, kk / 64, none⟩) (by show _ ≠ gw; omega) _
    · exact Bx.far hq (p := ⟨gw, kk / 64, none⟩) (by show _ ≠ gw; omega) _
    · exact Bx.far hkx (p := ⟨gw, kk / 64, none⟩) (by show _ ≠ gw; omega) _
    · have hst := (ho.stored (kk / 64) (.int .u64 (Go.bits .or .u64 cur ((2 : Int) ^ (kk % 64))))).1
      rw [show (nums .u64 (turnTo a0 zs (pre.map (·.1)))).set (kk / 64) (.int .u64 (Go.bits .or .u64 cur ((2 : Int) ^ (kk % 64)))) = nums .u64 (turnTo a0 zs ((pre ++ [(⟨x, hx⟩ : Pl (wf l0) l0.length)]).map (·.1))) by
        rw [List.map_append, List.map_cons, List.map_nil, turnTo_snoc, show (a0 - 1 - x).toNat = kk by omega]
        unfold setb
        rw [hcur]
        simp [nums, List.map_set]] at hst
      exact own_move hst (fun _ _ => rfl)
    · exact (hB.setCell (p := ⟨gw, kk / 64, none⟩) (by show _ ≤ gw; omega) _).drew
  case done =>
    rintro D ys W hD hys ⟨⟨hr, hq, hk, ho⟩, hB⟩ hK
    have k0_ := hk.c 0 _ rfl; have k1_ := hk.c 1 _ rfl; have q0_ := hq.c 0 _ rfl; have q1_ := hq.c 1 _ rfl; have z0_ := hq.fz 0; have z1_ := hq.fz 1
    gi_wp2
    obtain ⟨W1, hW1⟩ : ∃ W1, (W.setCell ⟨w.heap.size + 1, 0, none⟩ (.int .i64 a0)).setCell ⟨w.heap.size + 1, 1, none⟩ (.slice A2 l0.length c2) = W1 := ⟨_, rfl⟩
    rw [hW1]
    have hK1 : W1.heap[D]? = some (.deferred (some [])) := by
      rw [← hW1]
      exact ((KeepsOthers.setCell W _ _).trans (KeepsOthers.setCell _ _ _)).same D _ hK rfl
    have hq2 : Bx W1 (w.heap.size + 1) #[.int .i64 a0, .slice A2 l0.length c2] := by
      rw [← hW1]
      exact (hq.set 0 _ rfl).set 1 _ rfl
    have hg : ∀ r, some D = some r → ∃ o : Obj, W1.heap[r]? = some o ∧ o.isCells = false := fun r e => by cases e; exact ⟨_, hK1, rfl⟩
    have hq3 := Bx.kept hq2 (grownBy_putObj' W1 D (.deferred none)) hg
    have hw1 := hq1.lt
    have ho1 : W1.ownsRow w.heap.size 58 1 (.slice A2 l0.length c2) l0.length (nums .u64 (turnTo a0 zs (plc (wf l0) l0.length))) := by
      rw [← hys, ← hW1]
      refine own_move ho (fun k hk => ?_)
      have h1 : w1.heap.size ≤ k := by
        rcases HO.out.2 with ⟨e1, _⟩ | ⟨g, _, _, e1, h3, _⟩
        · injection e1 with e1
          subst e1
          cases hk
        · injection e1 with e1
          subst e1
          have e : g = k := by injection hk
          omega
      exact (Below.heap_setCell _ ⟨w.heap.size + 1, 1, none⟩ _ _ (by show k ≠ w.heap.size + 1; omega)).trans (Below.heap_setCell _ ⟨w.heap.size + 1, 0, none⟩ _ _ (by show k ≠ w.heap.size + 1; omega))
    refine ⟨by simp, .inl ⟨_, _, rfl, run_takeDeferred hK1, ?_⟩⟩
    have c0_ := hq3.c 0 _ rfl
    have c1_ := hq3.c 1 _ rfl
    refine ⟨.tuple #[.agg #[.int .i64 a0, .slice A2 l0.length c2], .int .i64 0], ?_, _, rfl, own_kept ho1 (grownBy_putObj' W1 D (.deferred none)) hg, ?_⟩
    · simp [results, Tryd.f21, go_sem, c0_, c1_, hu]
    · rw [← hW1]
      exact ((hB.setCell (p := ⟨w.heap.size + 1, 0, none⟩) (by simp) _).setCell (p := ⟨w.heap.size + 1, 1, none⟩) (by simp) _).trans (belowK_b (w := w) (Nat.le_refl _) _ D _ _ (by have := HB4.out.size; omega) (hW1 ▸ hK1) rfl rfl)
end Go.Proofs.YtlghmadoogblcaaDoor.Turned
end
section
namespace Go.Proofs.YtlghmadoogblcaaDoor.TurnPlain
open Go Go.RowKit Go.Proofs.YtlghmadoogblcaaDoor.PW Go.Proofs.YtlghmadoogblcaaDoorW.PrintWords Go.Proofs.YtlghmadoogblcaaDoorW.PrintLast Go.Proofs.YtlghmadoogblcaaDoorW.PrintMore
set_option linter.unusedVariables false
abbrev TurnSays (n : Int) (X Y : List Int) : Prop := ∀ (A : Option Addr) (c : Nat) (w : World), Kd.C (Kd.int .u64) w A X.length X → X.length ≤ c → Tz.Tab w →
  Calls Tryd.prog 21 #[.agg #[.int .i64 n, .slice A X.length c]] w fun e w' => ∃ v : Value, e = .returned (.tuple #[.agg #[.int .i64 n, v], .int .i64 0]) ∧ w'.ownsRow w.heap.size 58 1 v Y.length (nums .u64 Y) ∧ Below w.heap.size w w'
theorem own_C_ {w : World} {base : Nat} {v : Value} {xs : List Int} (h : w.ownsRow base 58 1 v xs.length (nums .u64 xs)) : ∃ A c, v = .slice A xs.length c ∧ xs.length ≤ c ∧ Kd.C (Kd.int .u64) w A xs.length xs :=
  Kd.R_reads (Kd.R_of_own (h1 := fun _ => rfl) (ok := fun _ => True) h (fun _ _ => trivial))
end Go.Proofs.YtlghmadoogblcaaDoor.TurnPlain
end
section
namespace Go.Proofs.YtlghmadoogblcaaDoor.TurnPlain
open Go Go.RowKit Go.Proofs.YtlghmadoogblcaaDoor.PW Go.Proofs.YtlghmadoogblcaaDoorW.PrintWords Go.Proofs.YtlghmadoogblcaaDoorW.PrintLast Go.Proofs.YtlghmadoogblcaaDoorW.PrintMore Go.Proofs.YtlghmadoogblcaaDoor.Bx
set_option linter.unusedVariables false
abbrev TurnTold (n : Int) (X : List Int) (m : Int) (Y : List Int) (er : Int) : Prop := ∀ (A : Option Addr) (c : Nat) (w : World), Kd.C (Kd.int .u64) w A X.length X → X.length ≤ c → Tz.Tab w →
  Calls Tryd.prog 21 #[.agg #[.int .i64 n, .slice A X.length c]] w fun e w' => ∃ v : Value, e = .returned (.tuple #[.agg #[.int .i64 m, v], .int .i64 er]) ∧ Kd.R (Kd.int .u64) 58 w' w.heap.size (fun _ => True) v Y ∧ Below w.heap.size w w'
theorem TurnSays.told {n : Int} {X Y : List Int} (h : TurnSays n X Y) : TurnTold n X n Y 0 := fun A c w hr hc hT =>
  (h A c w hr hc hT).mono fun e w' ⟨v, he, ho, hb⟩ => ⟨v, he, Kd.R_of_own (h1 := fun _ => rfl) ho (fun _ _ => trivial), hb⟩
set_option maxHeartbeats 2000000 in
set_option maxRecDepth 100000 in
theorem turned_no (n : Int) (X : List Int) (hV : words_Valid.f n X = some false) : TurnTold n X 0 [] 20 := by
  intro A0 c0 w hr hc hT
  have HR := Aside0.mk hr; have HV := Aside0.mk hV
  clear hr hV hT
  have hu := Tryd.underlying24
  have hz := Tryd.zeroValue24
  go_enter Tryd.func21, Tryd.ntmps21
  go_wp2_with (first
    | (go_at_call 29; (with_reducible refine (words_Valid.calls n A0 c0 X false _ ?s1 hc HV.out).mono ?_); (case s1 => exact Kd.C_alloc (Kd.C_alloc HR.out _) _); rintro e w1 ⟨rfl, hb⟩; have HB := Aside0.mk hb; have hq1 := ((Bx.new2 w (.cells #[.int .i64 n, .slice A0 X.length c0] 24) #[.int .i64 0, .slice none 0 0] 24).on hb); have q0_ := hq1.c 0 _ rfl; have q1_ := hq1.c 1 _ rfl; have z0_ := hq1.fz 0; have z1_ := hq1.fz 1; clear hb))
  have hq2 := (hq1.set 0 (.int .i64 0) rfl).set 1 (.slice none 0 0) rfl
  have c0_ := hq2.c 0 _ rfl
  have c1_ := hq2.c 1 _ rfl
  have hB := below_alloc (below_alloc (Below.refl w.heap.size w) (.cells #[.int .i64 n, .slice A0 X.length c0] 24)) (.cells #[.int .i64 0, .slice none 0 0] 24)
  refine bodyPost_ret (v := .tuple #[.agg #[.int .i64 0, .slice none 0 0], .int .i64 20]) ?_ rfl ⟨_, rfl, Kd.R_nil _ _ _ _ _, below_set (below_set (below_then hB hB.size HB.out) (by omega)) (by omega)⟩
  simp [results, Tryd.f21, go_sem, c0_, c1_]
end Go.Proofs.YtlghmadoogblcaaDoor.TurnPlain
end
section
namespace Go.Proofs.YtlghmadoogblcaaDoor.Boxes
open Go.RowKit Go.Proofs.YtlghmadoogblcaaDoorW.PrintWords Go.Proofs.YtlghmadoogblcaaDoorW.PrintLast Go.Proofs.YtlghmadoogblcaaDoorW.PrintMore Go.Proofs.YtlghmadoogblcaaDoor.PW
set_option linter.unusedVariables false
end Go.Proofs.YtlghmadoogblcaaDoor.Boxes
end
section
namespace Go.Proofs.YtlghmadoogblcaaDoor.MovesCall
open Go Go.RowKit Go.Proofs.YtlghmadoogblcaaDoorW.PrintWords Go.Proofs.YtlghmadoogblcaaDoorW.PrintLast Go.Proofs.YtlghmadoogblcaaDoorW.PrintMore Go.Proofs.YtlghmadoogblcaaDoor.PW Go.Proofs.YtlghmadoogblcaaDoor.PB Go.Proofs.YtlghmadoogblcaaDoor.Book Go.Proofs.YtlghmadoogblcaaDoor.Lent Go.Proofs.YtlghmadoogblcaaDoor.Pile Go.Proofs.YtlghmadoogblcaaDoor.TurnPlain
set_option linter.unusedVariables false
set_option linter.unusedSimpArgs false
set_option maxHeartbeats 8000000 in
set_option maxRecDepth 100000 in
theorem moves (k : Nat) {w W : World} {b : Nat} {gv wv : Value} {Z : List Ans} {ix : List Nat} {R : List (Value × List Int)} {T : List (Nat × List Value)} {L : List (Nat × Nat × List Int)} {B : List (Value × List Bool)} (h : Pile w W b gv wv Z ix R T L B) (hix : ix.length = Z.length) (hZ : Z.length ≤ 900) (hT : Tz.Tab w)
    (n1 : Int) (X1 : List Int) (inn : Bool) (Ax Ar : Option Addr) (cx cr : Nat) (hx : ∀ (W' : World) (gv' wv' : Value) (Z' : List Ans) (ix' : List Nat) (R' : List (Value × List Int)) (T' : List (Nat × List Value)), Pile w W' b gv' wv' Z' ix' R' T' L B → Kd.C (Kd.int .u64) W' Ax X1.length X1) (hr : ∀ (W' : World) (gv' wv' : Value) (Z' : List Ans) (ix' : List Nat) (R' : List (Value × List Int)) (T' : List (Nat × List Value)), Pile w W' b gv' wv' Z' ix' R' T' L B → Kd.C (Kd.int .u64) W' Ar X1.length X1)
    (lx : X1.length ≤ cx) (lr : X1.length ≤ cr) (m1 m2 m3 e1 e2 e3 : Int) (b1 b2 : Bool) (Y1 Y2 Y3 : List Int) (y1 : Y1.length ≤ 2000000) (y2 : Y2.length ≤ 2000000) (y3 : Y3.length ≤ 2000000) (hk : 2000010 < k)
    (a1 : words_Up.f k n1 X1 inn = some (m1, Y1, b1, e1)) (a2 : words_Down.f k n1 X1 inn = some (m2, Y2, b2, e2)) (a3 : TurnTold n1 X1 m3 Y3 e3)
    (j1 : vivariumref02_Up.f k n1 X1 inn = some (m1, Y1, b1, e1)) (j2 : vivariumref02_Down.f k n1 X1 inn = some (m2, Y2, b2, e2)) (j3 : vivariumref02_Turned.f k n1 X1 = some (m3, Y3, e3)) :
    Calls Tryd.prog 16 #[.pointer (some ⟨b, 0, none⟩), .agg #[.int .i64 n1, .slice Ax X1.length cx], .agg #[.int .i64 n1, .slice Ar X1.length cr], .bool inn] W
      fun e W' => e = .returned (.bool true) ∧ ∃ gv' wv' Z' R', Z'.length = Z.length + 3 ∧ R'.length = R.length + 6 ∧ Pile w W' b gv' wv' Z' (ix ++ [R.length + 1] ++ [R.length + 3] ++ [R.length + 5]) R' T L B := by
  have P := Aside0.mk h; have HIX := Aside0.mk hix; have HZ := Aside0.mk hZ; have HT := Aside0.mk hT; have HX := Aside0.mk hx; have HR := Aside0.mk hr; have HLx := Aside0.mk lx; have HLr := Aside0.mk lr; have HY1 := Aside0.mk y1; have HY2 := Aside0.mk y2; have HY3 := Aside0.mk y3; have HK := Aside0.mk hk
  have A1 := Aside0.mk a1; have A2 := Aside0.mk a2; have A3 := Aside0.mk a3; have J1 := Aside0.mk j1; have J2 := Aside0.mk j2; have J3 := Aside0.mk j3
  have E0 := At.mk (n := 0)
  have hu := Tryd.underlying24
  clear h hix hZ hT hx hr lx lr y1 y2 y3 hk a1 a2 a3 j1 j2 j3
  go_enter Tryd.func16, Tryd.ntmps16
  go_wp2_with (first
    | (go_at_call 37; have E_ := E0; have P1 := ((P.out.push [.int .i64 n1, .slice Ax X1.length cx] (W.heap.size) rfl).push [.int .i64 n1, .slice Ar X1.length cr] (W.heap.size + 1) (by simp)); with_reducible refine (vivariumref02_Up.calls k n1 Ar cr X1 inn m1 Y1 b1 e1 _ (HR.out _ _ _ _ _ _ _ P1) HLr.out J1.out).mono ?_; rintro er_ v1 ⟨t_, rfl, hR, hb⟩; have P2 := P1.told hb hR; obtain ⟨A_0, c_0, rfl, _, _⟩ := Kd.R_reads hR; clear hb hR; clear P P1 E0 E_; have P := Aside0.mk P2; clear P2; have E1 := At.mk (n := 1); have z_ := P.out.p0.mem_at (t := W.heap.size) (cs := [.int .i64 n1, .slice Ax X1.length cx]) (by simp); have q_x := z_.1; have x_x0 := z_.2 0 _ rfl; have x_x1 := z_.2 1 _ rfl; clear z_; have z_ := P.out.p0.mem_at (t := W.heap.size + 1) (cs := [.int .i64 n1, .slice Ar X1.length cr]) (by simp); have q_r := z_.1; have x_r0 := z_.2 0 _ rfl; have x_r1 := z_.2 1 _ rfl; clear z_)
    | (go_at_call 19; have E_ := E1; have P1 := (P.out.push [.int .i64 m1, .slice A_0 Y1.length c_0] (v1.heap.size) rfl); with_reducible refine (words_Up.calls k n1 Ax cx X1 inn m1 Y1 b1 e1 _ (HX.out _ _ _ _ _ _ _ P1) HLx.out A1.out).mono ?_; rintro er_ v2 ⟨t_, rfl, hR, hb⟩; have P2 := P1.told hb hR; obtain ⟨A_1, c_1, rfl, _, _⟩ := Kd.R_reads hR; clear hb hR; clear q_x x_x0 x_x1; clear q_r x_r0 x_r1; clear P P1 E1 E_; have P := Aside0.mk P2; clear P2; have E2 := At.mk (n := 2); have z_ := P.out.p0.mem_at (t := W.heap.size) (cs := [.int .i64 n1, .slice Ax X1.length cx]) (by simp); have q_x := z_.1; have x_x0 := z_.2 0 _ rfl; have x_x1 := z_.2 1 _ rfl; clear z_; have z_ := P.out.p0.mem_at (t := W.heap.size + 1) (cs := [.int .i64 n1, .slice Ar X1.length cr]) (by simp); have q_r := z_.1; have x_r0 := z_.2 0 _ rfl; have x_r1 := z_.2 1 _ rfl; clear z_; have z_ := P.out.p0.mem_at (t := v1.heap.size) (cs := [.int .i64 m1, .slice A_0 Y1.length c_0]) (by simp); have q_up := z_.1; have x_up0 := z_.2 0 _ rfl; have x_up1 := z_.2 1 _ rfl; clear z_)
    | (go_at_call 38; have E_ := E2; have P1 := (P.out.push [.int .i64 m1, .slice A_1 Y1.length c_1] (v2.heap.size) rfl); with_reducible refine (P1.adds k (R.length + 1) (R.length) m1 e1 A_1 A_0 c_1 c_0 Y1 (by simp) (by simp) (by simp [HIX.out]) (by have := HZ.out; simp; omega) HY1.out (by have := HY1.out; have := HK.out; omega)).mono ?_; rintro er_ v3 ⟨rfl, gv_, wv_, P2⟩; skip; clear q_x x_x0 x_x1; clear q_r x_r0 x_r1; clear q_up x_up0 x_up1; clear P P1 E2 E_; have P := Aside0.mk P2; clear P2; have E3 := At.mk (n := 3); have z_ := P.out.p0.mem_at (t := W.heap.size) (cs := [.int .i64 n1, .slice Ax X1.length cx]) (by simp); have q_x := z_.1; have x_x0 := z_.2 0 _ rfl; have x_x1 := z_.2 1 _ rfl; clear z_; have z_ := P.out.p0.mem_at (t := W.heap.size + 1) (cs := [.int .i64 n1, .slice Ar X1.length cr]) (by simp); have q_r := z_.1; have x_r0 := z_.2 0 _ rfl; have x_r1 := z_.2 1 _ rfl; clear z_; have z_ := P.out.p0.mem_at (t := v1.heap.size) (cs := [.int .i64 m1, .slice A_0 Y1.length c_0]) (by simp); have q_up := z_.1; have x_up0 := z_.2 0 _ rfl; have x_up1 := z_.2 1 _ rfl; clear z_; have z_ := P.out.p0.mem_at (t := v2.heap.size) (cs := [.int .i64 m1, .slice A_1 Y1.length c_1]) (by simp); have q_u := z_.1; have x_u0 := z_.2 0 _ rfl; have x_u1 := z_.2 1 _ rfl; clear z_)
    | (go_at_call 39; have E_ := E3; have P1 := P.out; with_reducible refine (vivariumref02_Down.calls k n1 Ar cr X1 inn m2 Y2 b2 e2 _ (HR.out _ _ _ _ _ _ _ P1) HLr.out J2.out).mono ?_; rintro er_ v4 ⟨t_, rfl, hR, hb⟩; have P2 := P1.told hb hR; obtain ⟨A_2, c_2, rfl, _, _⟩ := Kd.R_reads hR; clear hb hR; clear q_x x_x0 x_x1; clear q_r x_r0 x_r1; clear q_up x_up0 x_up1; clear q_u x_u0 x_u1; clear P P1 E3 E_; have P := Aside0.mk P2; clear P2; have E4 := At.mk (n := 4); have z_ := P.out.p0.mem_at (t := W.heap.size) (cs := [.int .i64 n1, .slice Ax X1.length cx]) (by simp); have q_x := z_.1; have x_x0 := z_.2 0 _ rfl; have x_x1 := z_.2 1 _ rfl; clear z_; have z_ := P.out.p0.mem_at (t := W.heap.size + 1) (cs := [.int .i64 n1, .slice Ar X1.length cr]) (by simp); have q_r := z_.1; have x_r0 := z_.2 0 _ rfl; have x_r1 := z_.2 1 _ rfl; clear z_; have z_ := P.out.p0.mem_at (t := v1.heap.size) (cs := [.int .i64 m1, .slice A_0 Y1.length c_0]) (by simp); have q_up := z_.1; have x_up0 := z_.2 0 _ rfl; have x_up1 := z_.2 1 _ rfl; clear z_; have z_ := P.out.p0.mem_at (t := v2.heap.size) (cs := [.int .i64 m1, .slice A_1 Y1.length c_1]) (by simp); have q_u := z_.1; have x_u0 := z_.2 0 _ rfl; have x_u1 := z_.2 1 _ rfl; clear z_)
    | (go_at_call 20; have E_ := E4; have P1 := (P.out.push [.int .i64 m2, .slice A_2 Y2.length c_2] (v4.heap.size) rfl); with_reducible refine (words_Down.calls k n1 Ax cx X1 inn m2 Y2 b2 e2 _ (HX.out _ _ _ _ _ _ _ P1) HLx.out A2.out).mono ?_; rintro er_ v5 ⟨t_, rfl, hR, hb⟩; have P2 := P1.told hb hR; obtain ⟨A_3, c_3, rfl, _, _⟩ := Kd.R_reads hR; clear hb hR; clear q_x x_x0 x_x1; clear q_r x_r0 x_r1; clear q_up x_up0 x_up1; clear q_u x_u0 x_u1; clear P P1 E4 E_; have P := Aside0.mk P2; clear P2; have E5 := At.mk (n := 5); have z_ := P.out.p0.mem_at (t := W.heap.size) (cs := [.int .i64 n1, .slice Ax X1.length cx]) (by simp); have q_x := z_.1; have x_x0 := z_.2 0 _ rfl; have x_x1 := z_.2 1 _ rfl; clear z_; have z_ := P.out.p0.mem_at (t := W.heap.size + 1) (cs := [.int .i64 n1, .slice Ar X1.length cr]) (by simp); have q_r := z_.1; have x_r0 := z_.2 0 _ rfl; have x_r1 := z_.2 1 _ rfl; clear z_; have z_ := P.out.p0.mem_at (t := v1.heap.size) (cs := [.int .i64 m1, .slice A_0 Y1.length c_0]) (by simp); have q_up := z_.1; have x_up0 := z_.2 0 _ rfl; have x_up1 := z_.2 1 _ rfl; clear z_; have z_ := P.out.p0.mem_at (t := v2.heap.size) (cs := [.int .i64 m1, .slice A_1 Y1.length c_1]) (by simp); have q_u := z_.1; have x_u0 := z_.2 0 _ rfl; have x_u1 := z_.2 1 _ rfl; clear z_; have z_ := P.out.p0.mem_at (t := v4.heap.size) (cs := [.int .i64 m2, .slice A_2 Y2.length c_2]) (by simp); have q_down := z_.1; have x_down0 := z_.2 0 _ rfl; have x_down1 := z_.2 1 _ rfl; clear z_)
    | (go_at_call 38; have E_ := E5; have P1 := (P.out.push [.int .i64 m2, .slice A_3 Y2.length c_3] (v5.heap.size) rfl); with_reducible refine (P1.adds k (R.length + 3) (R.length + 2) m2 e2 A_3 A_2 c_3 c_2 Y2 (by simp) (by simp) (by simp [HIX.out]) (by have := HZ.out; simp; omega) HY2.out (by have := HY2.out; have := HK.out; omega)).mono ?_; rintro er_ v6 ⟨rfl, gv_, wv_, P2⟩; skip; clear q_x x_x0 x_x1; clear q_r x_r0 x_r1; clear q_up x_up0 x_up1; clear q_u x_u0 x_u1; clear q_down x_down0 x_down1; clear P P1 E5 E_; have P := Aside0.mk P2; clear P2; have E6 := At.mk (n := 6); have z_ := P.out.p0.mem_at (t := W.heap.size) (cs := [.int .i64 n1, .slice Ax X1.length cx]) (by simp); have q_x := z_.1; have x_x0 := z_.2 0 _ rfl; have x_x1 := z_.2 1 _ rfl; clear z_; have z_ := P.out.p0.mem_at (t := W.heap.size + 1) (cs := [.int .i64 n1, .slice Ar X1.length cr]) (by simp); have q_r := z_.1; have x_r0 := z_.2 0 _ rfl; have x_r1 := z_.2 1 _ rfl; clear z_; have z_ := P.out.p0.mem_at (t := v1.heap.size) (cs := [.int .i64 m1, .slice A_0 Y1.length c_0]) (by simp); have q_up := z_.1; have x_up0 := z_.2 0 _ rfl; have x_up1 := z_.2 1 _ rfl; clear z_; have z_ := P.out.p0.mem_at (t := v2.heap.size) (cs := [.int .i64 m1, .slice A_1 Y1.length c_1]) (by simp); have q_u := z_.1; have x_u0 := z_.2 0 _ rfl; have x_u1 := z_.2 1 _ rfl; clear z_; have z_ := P.out.p0.mem_at (t := v4.heap.size) (cs := [.int .i64 m2, .slice A_2 Y2.length c_2]) (by simp); have q_down := z_.1; have x_down0 := z_.2 0 _ rfl; have x_down1 := z_.2 1 _ rfl; clear z_; have z_ := P.out.p0.mem_at (t := v5.heap.size) (cs := [.int .i64 m2, .slice A_3 Y2.length c_3]) (by simp); have q_d := z_.1; have x_d0 := z_.2 0 _ rfl; have x_d1 := z_.2 1 _ rfl; clear z_)
    | (go_at_call 40; have E_ := E6; have P1 := P.out; with_reducible refine (vivariumref02_Turned.calls k n1 Ar cr X1 m3 Y3 e3 _ (HR.out _ _ _ _ _ _ _ P1) HLr.out J3.out).mono ?_; rintro er_ v7 ⟨t_, rfl, hR, hb⟩; have P2 := P1.told hb hR; obtain ⟨A_4, c_4, rfl, _, _⟩ := Kd.R_reads hR; clear hb hR; clear q_x x_x0 x_x1; clear q_r x_r0 x_r1; clear q_up x_up0 x_up1; clear q_u x_u0 x_u1; clear q_down x_down0 x_down1; clear q_d x_d0 x_d1; clear P P1 E6 E_; have P := Aside0.mk P2; clear P2; have E7 := At.mk (n := 7); have z_ := P.out.p0.mem_at (t := W.heap.size) (cs := [.int .i64 n1, .slice Ax X1.length cx]) (by simp); have q_x := z_.1; have x_x0 := z_.2 0 _ rfl; have x_x1 := z_.2 1 _ rfl; clear z_; have z_ := P.out.p0.mem_at (t := W.heap.size + 1) (cs := [.int .i64 n1, .slice Ar X1.length cr]) (by simp); have q_r := z_.1; have x_r0 := z_.2 0 _ rfl; have x_r1 := z_.2 1 _ rfl; clear z_; have z_ := P.out.p0.mem_at (t := v1.heap.size) (cs := [.int .i64 m1, .slice A_0 Y1.length c_0]) (by simp); have q_up := z_.1; have x_up0 := z_.2 0 _ rfl; have x_up1 := z_.2 1 _ rfl; clear z_; have z_ := P.out.p0.mem_at (t := v2.heap.size) (cs := [.int .i64 m1, .slice A_1 Y1.length c_1]) (by simp); have q_u := z_.1; have x_u0 := z_.2 0 _ rfl; have x_u1 := z_.2 1 _ rfl; clear z_; have z_ := P.out.p0.mem_at (t := v4.heap.size) (cs := [.int .i64 m2, .slice A_2 Y2.length c_2]) (by simp); have q_down := z_.1; have x_down0 := z_.2 0 _ rfl; have x_down1 := z_.2 1 _ rfl; clear z_; have z_ := P.out.p0.mem_at (t := v5.heap.size) (cs := [.int .i64 m2, .slice A_3 Y2.length c_3]) (by simp); have q_d := z_.1; have x_d0 := z_.2 0 _ rfl; have x_d1 := z_.2 1 _ rfl; clear z_)
    | (go_at_call 21; have E_ := E7; have P1 := (P.out.push [.int .i64 m3, .slice A_4 Y3.length c_4] (v7.heap.size) rfl); with_reducible refine (A3.out Ax cx _ (HX.out _ _ _ _ _ _ _ P1) HLx.out (HT.out.on P1.p0.be)).mono ?_; rintro er_ v8 ⟨t_, rfl, hR, hb⟩; have P2 := P1.told hb hR; obtain ⟨A_5, c_5, rfl, _, _⟩ := Kd.R_reads hR; clear hb hR; clear q_x x_x0 x_x1; clear q_r x_r0 x_r1; clear q_up x_up0 x_up1; clear q_u x_u0 x_u1; clear q_down x_down0 x_down1; clear q_d x_d0 x_d1; clear P P1 E7 E_; have P := Aside0.mk P2; clear P2; have E8 := At.mk (n := 8); have z_ := P.out.p0.mem_at (t := W.heap.size) (cs := [.int .i64 n1, .slice Ax X1.length cx]) (by simp); have q_x := z_.1; have x_x0 := z_.2 0 _ rfl; have x_x1 := z_.2 1 _ rfl; clear z_; have z_ := P.out.p0.mem_at (t := W.heap.size + 1) (cs := [.int .i64 n1, .slice Ar X1.length cr]) (by simp); have q_r := z_.1; have x_r0 := z_.2 0 _ rfl; have x_r1 := z_.2 1 _ rfl; clear z_; have z_ := P.out.p0.mem_at (t := v1.heap.size) (cs := [.int .i64 m1, .slice A_0 Y1.length c_0]) (by simp); have q_up := z_.1; have x_up0 := z_.2 0 _ rfl; have x_up1 := z_.2 1 _ rfl; clear z_; have z_ := P.out.p0.mem_at (t := v2.heap.size) (cs := [.int .i64 m1, .slice A_1 Y1.length c_1]) (by simp); have q_u := z_.1; have x_u0 := z_.2 0 _ rfl; have x_u1 := z_.2 1 _ rfl; clear z_; have z_ := P.out.p0.mem_at (t := v4.heap.size) (cs := [.int .i64 m2, .slice A_2 Y2.length c_2]) (by simp); have q_down := z_.1; have x_down0 := z_.2 0 _ rfl; have x_down1 := z_.2 1 _ rfl; clear z_; have z_ := P.out.p0.mem_at (t := v5.heap.size) (cs := [.int .i64 m2, .slice A_3 Y2.length c_3]) (by simp); have q_d := z_.1; have x_d0 := z_.2 0 _ rfl; have x_d1 := z_.2 1 _ rfl; clear z_; have z_ := P.out.p0.mem_at (t := v7.heap.size) (cs := [.int .i64 m3, .slice A_4 Y3.length c_4]) (by simp); have q_turned := z_.1; have x_turned0 := z_.2 0 _ rfl; have x_turned1 := z_.2 1 _ rfl; clear z_)
    | (go_at_call 38; have E_ := E8; have P1 := (P.out.push [.int .i64 m3, .slice A_5 Y3.length c_5] (v8.heap.size) rfl); with_reducible refine (P1.adds k (R.length + 5) (R.length + 4) m3 e3 A_5 A_4 c_5 c_4 Y3 (by simp) (by simp) (by simp [HIX.out]) (by have := HZ.out; simp; omega) HY3.out (by have := HY3.out; have := HK.out; omega)).mono ?_; rintro er_ v9 ⟨rfl, gv_, wv_, P2⟩; skip; clear q_x x_x0 x_x1; clear q_r x_r0 x_r1; clear q_up x_up0 x_up1; clear q_u x_u0 x_u1; clear q_down x_down0 x_down1; clear q_d x_d0 x_d1; clear q_turned x_turned0 x_turned1; clear P P1 E8 E_; have P := Aside0.mk P2; clear P2; have E9 := At.mk (n := 9); have z_ := P.out.p0.mem_at (t := W.heap.size) (cs := [.int .i64 n1, .slice Ax X1.length cx]) (by simp); have q_x := z_.1; have x_x0 := z_.2 0 _ rfl; have x_x1 := z_.2 1 _ rfl; clear z_; have z_ := P.out.p0.mem_at (t := W.heap.size + 1) (cs := [.int .i64 n1, .slice Ar X1.length cr]) (by simp); have q_r := z_.1; have x_r0 := z_.2 0 _ rfl; have x_r1 := z_.2 1 _ rfl; clear z_; have z_ := P.out.p0.mem_at (t := v1.heap.size) (cs := [.int .i64 m1, .slice A_0 Y1.length c_0]) (by simp); have q_up := z_.1; have x_up0 := z_.2 0 _ rfl; have x_up1 := z_.2 1 _ rfl; clear z_; have z_ := P.out.p0.mem_at (t := v2.heap.size) (cs := [.int .i64 m1, .slice A_1 Y1.length c_1]) (by simp); have q_u := z_.1; have x_u0 := z_.2 0 _ rfl; have x_u1 := z_.2 1 _ rfl; clear z_; have z_ := P.out.p0.mem_at (t := v4.heap.size) (cs := [.int .i64 m2, .slice A_2 Y2.length c_2]) (by simp); have q_down := z_.1; have x_down0 := z_.2 0 _ rfl; have x_down1 := z_.2 1 _ rfl; clear z_; have z_ := P.out.p0.mem_at (t := v5.heap.size) (cs := [.int .i64 m2, .slice A_3 Y2.length c_3]) (by simp); have q_d := z_.1; have x_d0 := z_.2 0 _ rfl; have x_d1 := z_.2 1 _ rfl; clear z_; have z_ := P.out.p0.mem_at (t := v7.heap.size) (cs := [.int .i64 m3, .slice A_4 Y3.length c_4]) (by simp); have q_turned := z_.1; have x_turned0 := z_.2 0 _ rfl; have x_turned1 := z_.2 1 _ rfl; clear z_; have z_ := P.out.p0.mem_at (t := v8.heap.size) (cs := [.int .i64 m3, .slice A_5 Y3.length c_5]) (by simp); have q_t := z_.1; have x_t0 := z_.2 0 _ rfl; have x_t1 := z_.2 1 _ rfl; clear z_))
  go_ret
  refine ⟨by simp, _, _, _, _, ?_, ?_, Pile.drop P.out (by simp only [List.append_assoc]; rfl)⟩
  · simp
  · simp
end Go.Proofs.YtlghmadoogblcaaDoor.MovesCall
end
section
namespace Go.Proofs.YtlghmadoogblcaaDoor.PW
open Go.RowKit Go.Proofs.YtlghmadoogblcaaDoorW.PrintWords Go.Proofs.YtlghmadoogblcaaDoorW.PrintLast Go.Proofs.YtlghmadoogblcaaDoorW.PrintMore
attribute [local go_sem] max2_int min2_int max_two min_two max_three min_three max_four min_four   -- for this text's walks alone
set_option linter.unusedVariables false
set_option linter.unusedSimpArgs false
def words_Ones.l0 : Nat → Int → List Int → Int → Int → Option (Int × Int)
  | 0, _, _, _, _ => none
  | k + 1, x4, x11, x12, x13 => if x13 < x12 then (if 0 ≤ x13 then (if x13 < (x11.length : Int) then ((bits_OnesCount64.f (rd x11 x13)).bind fun t196 => (words_Ones.l0 k (wrap64 (x4 + t196)) x11 x12 (wrap64 (x13 + 1)))) else (none)) else (none)) else (some (x4, 0))
def words_Ones.f (k : Nat) (a0_0 : Int) (l0_1 : List Int) : Option (Int × Int) := (words_Valid.f a0_0 l0_1).bind fun t194 => (if t194 = true then (words_Ones.l0 k 0 l0_1 (l0_1.length : Int) 0) else (some (0, 20)))
theorem words_Ones.mono_l : ∀ k, (∀ y0 y1 y2 y3, LeO (words_Ones.l0 k y0 y1 y2 y3) (words_Ones.l0 (k + 1) y0 y1 y2 y3))
  | 0 => fun _ _ _ _ r h => by simp [words_Ones.l0] at h
  | k + 1 => by
    have ih0 := words_Ones.mono_l k
    · intro y0 y1 y2 y3
      unfold words_Ones.l0
      repeat' first
      | (with_reducible exact ih0 _ _ _ _)
      | (with_reducible exact LeO.refl _)
      | (with_reducible exact LeO.none _)
      | (with_reducible refine LeO.ite ?_ ?_)
      | (with_reducible refine LeO.bind ?_ (fun _ => ?_))
      | exact ih0 _ _ _ _
      | exact LeO.none _
      | refine LeO.ite ?_ ?_
      | refine LeO.bind ?_ (fun _ => ?_)
theorem words_Ones.mono : ∀ a0 a1 k, LeO (words_Ones.f k a0 a1) (words_Ones.f (k + 1) a0 a1) := by
  intro a0 a1 k
  have ih0 := words_Ones.mono_l k
  unfold words_Ones.f
  repeat' first
      | (with_reducible exact ih0 _ _ _ _)
      | (with_reducible exact LeO.refl _)
      | (with_reducible exact LeO.none _)
      | (with_reducible refine LeO.ite ?_ ?_)
      | (with_reducible refine LeO.bind ?_ (fun _ => ?_))
      | exact ih0 _ _ _ _
      | exact LeO.none _
      | refine LeO.ite ?_ ?_
      | refine LeO.bind ?_ (fun _ => ?_)
set_option maxHeartbeats 8000000 in
set_option maxRecDepth 100000 in
theorem words_Ones.calls (k : Nat) (a0_0 : Int) (A0_1 : Option Addr) (c0_1 : Nat) (l0_1 : List Int) (r1 : Int) (r2 : Int) (w : World) (hr0_1 : Kd.C (Kd.int .u64) w A0_1 l0_1.length l0_1) (hc0_1 : l0_1.length ≤ c0_1) (h : words_Ones.f k a0_0 l0_1 = some (r1, r2)) :
    Calls Tryd.prog 10 #[.agg #[.int .i64 a0_0, .slice A0_1 l0_1.length c0_1]] w fun e w' => e = .returned (.tuple #[.int .i64 r1, .int .i64 r2]) ∧ Below w.heap.size w w' := by
  have hu31 := Tryd.underlying24
  have HR0_1 := Aside0.mk hr0_1
  have HC0_1 := Aside0.mk hc0_1
  clear hr0_1 hc0_1
  have HB := Aside0.mk (Below.refl w.heap.size w)
  have H : ((words_Valid.f a0_0 l0_1).bind fun t194 => (if t194 = true then (words_Ones.l0 k 0 l0_1 (l0_1.length : Int) 0) else (some (0, 20)))) = some (r1, r2) := h
  clear h
  replace H := Option.bind_eq_some_iff.mp H
  obtain ⟨t194, A20, H⟩ := H
  replace H : (if t194 = true then (words_Ones.l0 k 0 l0_1 (l0_1.length : Int) 0) else (some (0, 20))) = some (r1, r2) := H
  have A2 := Aside0.mk A20
  clear A20
  by_cases c3 : t194 = true
  · subst c3
    have H1 : (words_Ones.l0 k 0 l0_1 (l0_1.length : Int) 0) = some (r1, r2) := by rw [if_pos rfl] at H; exact H
    clear H
    have H := H1
    clear H1
    have H' := Aside0.mk H
    clear H
    go_enter Tryd.func10, Tryd.ntmps10
    go_wp2_with (first | ((with_reducible refine gate_dst (N := 1) rfl ?_); refine box_event ?hg (N := 1) ?hd (cs := #[.int .i64 a0_0, .slice A0_1 l0_1.length c0_1]) (t := 24) ?hr ?_; (case hd => rfl); (case hg => rfl); (case hr => first | (go_simp; done) | (go_simp; rfl)); intro gb193 hg w4 hbox hb; have n0_ := Aside0.mk (below_step (by repeat (first | (with_reducible first | exact HB.out | apply below_alloc | apply pw_below_drewN | apply below_drew1) | exact HB.out)) hb); have n1_ := Aside0.mk (hbox); have n2_ := Aside0.mk ((by rw [hg]; exact (below_size (by repeat (first | (with_reducible first | exact HB.out | apply below_alloc | apply pw_below_drewN | apply below_drew1) | exact HB.out))) : w.heap.size ≤ gb193)); have n3_ := Aside0.mk ((by rw [hg]; exact (below_size (by repeat (first | (with_reducible first | exact HB.out | apply below_alloc | apply pw_below_drewN | apply below_drew1) | exact HB.out))) : w.heap.size ≤ gb193)); clear HB; have HB := n0_; have BK193 := n1_; have GW193 := n2_; have GE193 := n3_; clear n0_ n1_ n2_ n3_; clear hb hbox hg; have hcz5_0 : w4.cell? ⟨gb193, 0, none⟩ = some (.int .i64 a0_0) := (blk_cell BK193.out 0).trans rfl; have hcz5_1 : w4.cell? ⟨gb193, 1, none⟩ = some (.slice A0_1 l0_1.length c0_1) := (blk_cell BK193.out 1).trans rfl; have hfz5_0 := blk_frozen BK193.out 0; have hfz5_1 := blk_frozen BK193.out 1) | ((with_reducible refine gate_callee (f := 29) rfl ?_); refine goesL_ (some 8) rfl rfl Tryd.func29 (by kernel_rfl) rfl #[.agg #[.int .i64 a0_0, .slice A0_1 l0_1.length c0_1]] rfl (by (try simp only [List.map_toArray, List.map_cons, List.map_nil]); first | done | rfl | (simp only [List.length_drop, List.length_take]; rfl)) ?_; (with_reducible refine (words_Valid.calls a0_0 _ _ l0_1 true _ ?side1 ?side2 A2.out).mono ?_); (case side1 => repeat (first | exact (Kd.C_below HR0_1.out HB.out) | (with_reducible refine Kd.C_alloc ?_ _) | (with_reducible refine Kd.C_drewN ?_ _) | (with_reducible refine Kd.C_drew ?_))); (case side2 => exact HC0_1.out); rintro e w6 ⟨rfl, hb⟩; refine ⟨_, rfl, ?_⟩; have n0_ := Aside0.mk (blk_below (g := gb193) (o := .cells #[.int .i64 a0_0, .slice A0_1 l0_1.length c0_1] 24 (0, 0)) (by (with_reducible repeat (first | refine blk_drewN ?_ _ | refine blk_drew ?_ | refine blk_alloc ?_ _)); exact BK193.out) hb); have n1_ := Aside0.mk (below_step (by repeat (first | (with_reducible first | exact HB.out | apply below_alloc | apply pw_below_drewN | apply below_drew1 | refine below_set ?_ GE193.out) | exact HB.out)) hb); clear BK193; clear HB; have BK193 := n0_; have HB := n1_; clear n0_ n1_; (try clear hb); (try clear hb2); (try clear hk); (try clear hi); have hcz7_0 : w6.cell? ⟨gb193, 0, none⟩ = some (.int .i64 a0_0) := (blk_cell BK193.out 0).trans rfl; have hcz7_1 : w6.cell? ⟨gb193, 1, none⟩ = some (.slice A0_1 l0_1.length c0_1) := (blk_cell BK193.out 1).trans rfl; have hfz7_0 := blk_frozen BK193.out 0; have hfz7_1 := blk_frozen BK193.out 1))
    go_loopg [4, 13] k (fun kq v4 v13 w' => ∃ (x4_1 : Int) (x13_1 : Int), v4 = .int .i64 x4_1 ∧ v13 = .int .i64 x13_1 ∧ Aside0 (words_Ones.l0 kq x4_1 l0_1 (l0_1.length : Int) x13_1 = some (r1, r2)) ∧ Aside0 (kq ≤ k) ∧ Aside0 (w'.heap[gb193]? = some (.cells #[.int .i64 a0_0, (.slice A0_1 l0_1.length c0_1)] 24 (0, 0))) ∧ Aside0 (Below w.heap.size w w'))
    case atStart => exact ⟨(0), (0), (by first | rfl | (simp; done) | (simp [*]; done) | (simp [wrap64]; done)), (by first | rfl | (simp; done) | (simp [*]; done) | (simp [wrap64]; done)), H', ⟨Nat.le_refl _⟩, ⟨by (with_reducible repeat (first | refine blk_drewN ?_ _ | refine blk_drew ?_ | refine blk_alloc ?_ _)); exact BK193.out⟩, ⟨by repeat (first | (with_reducible first | exact HB.out | apply below_alloc | apply pw_below_drewN | apply below_drew1 | refine below_set ?_ GE193.out) | exact HB.out)⟩⟩
    case round =>
      clear H'
      try clear c2
      try clear p2
      try clear c3
      try clear c4
      try clear hcz5_0
      try clear hcz5_1
      try clear hcz7_0
      try clear hcz7_1
      try clear hfz5_0
      try clear hfz5_1
      try clear hfz7_0
      try clear hfz7_1
      obtain ⟨x4_1, x13_1, rfl, rfl, HA, HK1, BK193, HB⟩ := hrel
      cases gk with
      | zero => exact absurd HA.out (by simp [words_Ones.l0])
      | succ k1 =>
        have H := HA.out
        clear HA
        simp only [words_Ones.l0] at H
        by_cases c8 : x13_1 < (l0_1.length : Int)
        · rw [if_pos c8] at H
          have c8b0 : decide (x13_1 < (l0_1.length : Int)) = true := decide_eq_true c8
          clear c8
          by_cases c9 : 0 ≤ x13_1
          · rw [if_pos c9] at H
            have c9b0 : decide (0 ≤ x13_1) = true := decide_eq_true c9
            clear c9
            by_cases c10 : x13_1 < (l0_1.length : Int)
            · rw [if_pos c10] at H
              have c10b0 : decide (x13_1 < (l0_1.length : Int)) = true := decide_eq_true c10
              clear c10
              replace H := Option.bind_eq_some_iff.mp H
              obtain ⟨t196, A110, H⟩ := H
              replace H : (words_Ones.l0 k1 (wrap64 (x4_1 + t196)) l0_1 (l0_1.length : Int) (wrap64 (x13_1 + 1))) = some (r1, r2) := H
              have A11 := Aside0.mk A110
              clear A110
              have H' := Aside0.mk H
              clear H
              have p195 : 0 ≤ (x13_1 : Int) := of_decide_eq_true (by first | (with_reducible assumption) | assumption)
              have q195 : x13_1 < (l0_1.length : Int) := of_decide_eq_true (by first | (with_reducible assumption) | assumption)
              obtain ⟨ad195, e195, hx195_0⟩ := Kd.at_int HR0_1.out x13_1 p195 q195
              cases e195
              replace hx195_0 := (HB.out.cell (World.block_lt_of_cell? w _ hx195_0)).trans hx195_0
              replace p195 := eq_true p195
              replace q195 := eq_true q195
              go_wp2_with (first | ((with_reducible refine gate_callee (f := 30) rfl ?_); refine goesL_ (some 19) rfl rfl Tryd.func30 (by kernel_rfl) rfl #[.int .u64 (rd l0_1 x13_1)] rfl (by (try simp only [List.map_toArray, List.map_cons, List.map_nil]); first | done | rfl | (simp only [List.length_drop, List.length_take]; rfl)) ?_; (with_reducible refine (bits_OnesCount64.calls (rd l0_1 x13_1) t196 _ A11.out).mono ?_); rintro e w' ⟨rfl, ⟨nd, rfl⟩⟩; refine ⟨_, rfl, ?_⟩))
              go_roundg k1
              case measure => have := HK1.out; omega
              case rel => exact ⟨(wrap64 (x4_1 + t196)), (wrap64 (x13_1 + 1)), (by first | rfl | (simp; done) | (simp [*]; done) | (simp [wrap64]; done)), (by first | rfl | (simp; done) | (simp [*]; done) | (simp [wrap64]; done)), H', ⟨by have := HK1.out; omega⟩, ⟨by (with_reducible repeat (first | refine blk_drewN ?_ _ | refine blk_drew ?_ | refine blk_alloc ?_ _)); exact BK193.out⟩, ⟨by repeat (first | (with_reducible first | exact HB.out | apply below_alloc | apply pw_below_drewN | apply below_drew1 | refine below_set ?_ GE193.out) | exact HB.out)⟩⟩
            · rw [if_neg c10] at H
              exact absurd H (by simp)
          · rw [if_neg c9] at H
            exact absurd H (by simp)
        · rw [if_neg c8] at H
          have c8b0 : decide (x13_1 < (l0_1.length : Int)) = false := decide_eq_false c8
          clear c8
          simp only [Option.some.injEq, Prod.mk.injEq] at H
          obtain ⟨rfl, rfl⟩ := H
          go_wp2
          go_ret2
          exact ⟨by first | rfl | (simp [errW_none, errW_some] <;> rfl) | (simp [*, errW_none, errW_some] <;> rfl), by repeat (first | (with_reducible first | exact HB.out | apply below_alloc | apply pw_below_drewN | apply below_drew1 | refine below_set ?_ GE193.out) | exact HB.out)⟩
  · replace c3 := Bool.eq_false_iff.mpr c3
    subst c3
    have H1 : (some (0, 20)) = some (r1, r2) := by rw [if_neg (show ¬ (false = true) by decide)] at H; exact H
    clear H
    have H := H1
    clear H1
    simp only [Option.some.injEq, Prod.mk.injEq] at H
    obtain ⟨rfl, rfl⟩ := H
    go_enter Tryd.func10, Tryd.ntmps10
    go_wp2_with (first | ((with_reducible refine gate_dst (N := 1) rfl ?_); refine box_event ?hg (N := 1) ?hd (cs := #[.int .i64 a0_0, .slice A0_1 l0_1.length c0_1]) (t := 24) ?hr ?_; (case hd => rfl); (case hg => rfl); (case hr => first | (go_simp; done) | (go_simp; rfl)); intro gb193 hg w12 hbox hb; have n0_ := Aside0.mk (below_step (by repeat (first | (with_reducible first | exact HB.out | apply below_alloc | apply pw_below_drewN | apply below_drew1) | exact HB.out)) hb); have n1_ := Aside0.mk (hbox); have n2_ := Aside0.mk ((by rw [hg]; exact (below_size (by repeat (first | (with_reducible first | exact HB.out | apply below_alloc | apply pw_below_drewN | apply below_drew1) | exact HB.out))) : w.heap.size ≤ gb193)); have n3_ := Aside0.mk ((by rw [hg]; exact (below_size (by repeat (first | (with_reducible first | exact HB.out | apply below_alloc | apply pw_below_drewN | apply below_drew1) | exact HB.out))) : w.heap.size ≤ gb193)); clear HB; have HB := n0_; have BK193 := n1_; have GW193 := n2_; have GE193 := n3_; clear n0_ n1_ n2_ n3_; clear hb hbox hg; have hcz13_0 : w12.cell? ⟨gb193, 0, none⟩ = some (.int .i64 a0_0) := (blk_cell BK193.out 0).trans rfl; have hcz13_1 : w12.cell? ⟨gb193, 1, none⟩ = some (.slice A0_1 l0_1.length c0_1) := (blk_cell BK193.out 1).trans rfl; have hfz13_0 := blk_frozen BK193.out 0; have hfz13_1 := blk_frozen BK193.out 1) | ((with_reducible refine gate_callee (f := 29) rfl ?_); refine goesL_ (some 8) rfl rfl Tryd.func29 (by kernel_rfl) rfl #[.agg #[.int .i64 a0_0, .slice A0_1 l0_1.length c0_1]] rfl (by (try simp only [List.map_toArray, List.map_cons, List.map_nil]); first | done | rfl | (simp only [List.length_drop, List.length_take]; rfl)) ?_; (with_reducible refine (words_Valid.calls a0_0 _ _ l0_1 false _ ?side1 ?side2 A2.out).mono ?_); (case side1 => repeat (first | exact (Kd.C_below HR0_1.out HB.out) | (with_reducible refine Kd.C_alloc ?_ _) | (with_reducible refine Kd.C_drewN ?_ _) | (with_reducible refine Kd.C_drew ?_))); (case side2 => exact HC0_1.out); rintro e w14 ⟨rfl, hb⟩; refine ⟨_, rfl, ?_⟩; have n0_ := Aside0.mk (blk_below (g := gb193) (o := .cells #[.int .i64 a0_0, .slice A0_1 l0_1.length c0_1] 24 (0, 0)) (by (with_reducible repeat (first | refine blk_drewN ?_ _ | refine blk_drew ?_ | refine blk_alloc ?_ _)); exact BK193.out) hb); have n1_ := Aside0.mk (below_step (by repeat (first | (with_reducible first | exact HB.out | apply below_alloc | apply pw_below_drewN | apply below_drew1 | refine below_set ?_ GE193.out) | exact HB.out)) hb); clear BK193; clear HB; have BK193 := n0_; have HB := n1_; clear n0_ n1_; (try clear hb); (try clear hb2); (try clear hk); (try clear hi)))
    go_ret2
    exact ⟨by first | rfl | (simp [errW_none, errW_some] <;> rfl) | (simp [*, errW_none, errW_some] <;> rfl), by repeat (first | (with_reducible first | exact HB.out | apply below_alloc | apply pw_below_drewN | apply below_drew1 | refine below_set ?_ GE193.out) | exact HB.out)⟩
def words_Half.f (a0 : Int) (a1 : Int) : Option (Int × Int) := some (Go.bits .xor .u64 a0 a1, Go.bits .and .u64 a0 a1)
set_option maxHeartbeats 8000000 in
set_option maxRecDepth 100000 in
theorem words_Half.calls (a0 : Int) (a1 : Int) (r1 : Int) (r2 : Int) (w : World) (h : words_Half.f a0 a1 = some (r1, r2)) :
    Calls Tryd.prog 27 #[.int .u64 a0, .int .u64 a1] w fun e w' => e = .returned (.tuple #[.int .u64 r1, .int .u64 r2]) ∧ Drawn0 w w' := by
  have H : (some (Go.bits .xor .u64 a0 a1, Go.bits .and .u64 a0 a1)) = some (r1, r2) := h
  clear h
  simp only [Option.some.injEq, Prod.mk.injEq] at H
  obtain ⟨rfl, rfl⟩ := H
  go_enter Tryd.func27, Tryd.ntmps27
  go_wp2
  go_ret2
  exact ⟨by first | rfl | (simp; done) | (simp [*]; done), by repeat (first | exact Drawn0.refl _ | apply Drawn0.step)⟩
end Go.Proofs.YtlghmadoogblcaaDoor.PW
end
section
namespace Go.Proofs.YtlghmadoogblcaaDoor.PW
open Go.RowKit Go.Proofs.YtlghmadoogblcaaDoorW.PrintWords Go.Proofs.YtlghmadoogblcaaDoorW.PrintLast Go.Proofs.YtlghmadoogblcaaDoorW.PrintMore
attribute [local go_sem] max2_int min2_int max_two min_two max_three min_three max_four min_four   -- for this text's walks alone
set_option linter.unusedVariables false
set_option linter.unusedSimpArgs false
def vivariumlaw02_alive.f (k : Nat)  : Option (Bool) := (words_Of.f k (([true, false, true] : List Bool))).bind fun bt204 => ((words_Up.f k bt204.1 bt204.2.1 true).bind fun bt210 => ((words_Ones.f k bt210.1 bt210.2.1).bind fun bt217 => ((words_Half.f 12 10).bind fun bt219 => (if bt204.2.2 = 0 then (if bt210.2.2.2 = 0 then (if bt217.2 = 0 then (if bt204.1 = 3 then (if (bt204.2.1.length : Int) = 1 then (if 0 < (bt204.2.1.length : Int) then (if (rd bt204.2.1 0) = 5 then (if bt210.2.2.1 = true then (if bt217.1 = 2 then ((words_Get.f bt210.1 bt210.2.1 1).bind fun t222 => (if t222 = true then ((words_Get.f bt210.1 bt210.2.1 2).bind fun t223 => (if t223 = true then (some false) else (if bt219.1 = 6 then (some (bt219.2 == 8)) else (some false)))) else (some false))) else (some false)) else (some false)) else (some false)) else (none)) else (some false)) else (some false)) else (some false)) else (some false)) else (some false)))))
theorem vivariumlaw02_alive.mono : ∀ k, LeO (vivariumlaw02_alive.f k ) (vivariumlaw02_alive.f (k + 1) ) := by
  intro  k
  unfold vivariumlaw02_alive.f
  repeat' first
      | (with_reducible exact words_Of.mono _ _)
      | (with_reducible exact words_Ones.mono _ _ _)
      | (with_reducible exact words_Up.mono _ _ _ _)
      | (with_reducible exact LeO.refl _)
      | (with_reducible exact LeO.none _)
      | (with_reducible refine LeO.ite ?_ ?_)
      | (with_reducible refine LeO.bind ?_ (fun _ => ?_))
      | exact words_Of.mono _ _
      | exact words_Ones.mono _ _ _
      | exact words_Up.mono _ _ _ _
      | exact LeO.none _
      | refine LeO.ite ?_ ?_
      | refine LeO.bind ?_ (fun _ => ?_)
set_option maxHeartbeats 8000000 in
set_option maxRecDepth 100000 in
theorem vivariumlaw02_alive.calls (k : Nat)  (r : Bool) (w : World) (hrt_ : r = true) (h : vivariumlaw02_alive.f k  = some r) :
    Calls Tryd.prog 7 #[] w fun e w' => e = .returned (.bool r) ∧ Below w.heap.size w w' := by
  have hu31 := Tryd.underlying24
  have HB := Aside0.mk (Below.refl w.heap.size w)
  have H : ((words_Of.f k (([true, false, true] : List Bool))).bind fun bt204 => ((words_Up.f k bt204.1 bt204.2.1 true).bind fun bt210 => ((words_Ones.f k bt210.1 bt210.2.1).bind fun bt217 => ((words_Half.f 12 10).bind fun bt219 => (if bt204.2.2 = 0 then (if bt210.2.2.2 = 0 then (if bt217.2 = 0 then (if bt204.1 = 3 then (if (bt204.2.1.length : Int) = 1 then (if 0 < (bt204.2.1.length : Int) then (if (rd bt204.2.1 0) = 5 then (if bt210.2.2.1 = true then (if bt217.1 = 2 then ((words_Get.f bt210.1 bt210.2.1 1).bind fun t222 => (if t222 = true then ((words_Get.f bt210.1 bt210.2.1 2).bind fun t223 => (if t223 = true then (some false) else (if bt219.1 = 6 then (some (bt219.2 == 8)) else (some false)))) else (some false))) else (some false)) else (some false)) else (some false)) else (none)) else (some false)) else (some false)) else (some false)) else (some false)) else (some false)))))) = some r := h
  clear h
  obtain ⟨y201, hy201⟩ : ∃ y_ : List Bool, y_ = (([true, false, true] : List Bool)) := ⟨_, rfl⟩
  replace H : ((words_Of.f k y201).bind fun bt204 => ((words_Up.f k bt204.1 bt204.2.1 true).bind fun bt210 => ((words_Ones.f k bt210.1 bt210.2.1).bind fun bt217 => ((words_Half.f 12 10).bind fun bt219 => (if bt204.2.2 = 0 then (if bt210.2.2.2 = 0 then (if bt217.2 = 0 then (if bt204.1 = 3 then (if (bt204.2.1.length : Int) = 1 then (if 0 < (bt204.2.1.length : Int) then (if (rd bt204.2.1 0) = 5 then (if bt210.2.2.1 = true then (if bt217.1 = 2 then ((words_Get.f bt210.1 bt210.2.1 1).bind fun t222 => (if t222 = true then ((words_Get.f bt210.1 bt210.2.1 2).bind fun t223 => (if t223 = true then (some false) else (if bt219.1 = 6 then (some (bt219.2 == 8)) else (some false)))) else (some false))) else (some false)) else (some false)) else (some false)) else (none)) else (some false)) else (some false)) else (some false)) else (some false)) else (some false)))))) = some r := by first | (rw [hy201]; with_reducible exact H) | (have H2_ := (Option.bind_some _ _).symm.trans H; rw [hy201]; with_reducible exact H2_) | (have H2_ := (Option.bind_some _ _).symm.trans H; with_reducible exact H2_) | with_reducible exact H | (rw [hy201]; exact H) | exact H
  have Ny201 := Aside0.mk hy201
  clear hy201
  replace H := Option.bind_eq_some_iff.mp H
  obtain ⟨⟨t204, t205, t208⟩, A10, H⟩ := H
  replace H : ((words_Up.f k t204 t205 true).bind fun bt210 => ((words_Ones.f k bt210.1 bt210.2.1).bind fun bt217 => ((words_Half.f 12 10).bind fun bt219 => (if t208 = 0 then (if bt210.2.2.2 = 0 then (if bt217.2 = 0 then (if t204 = 3 then (if (t205.length : Int) = 1 then (if 0 < (t205.length : Int) then (if (rd t205 0) = 5 then (if bt210.2.2.1 = true then (if bt217.1 = 2 then ((words_Get.f bt210.1 bt210.2.1 1).bind fun t222 => (if t222 = true then ((words_Get.f bt210.1 bt210.2.1 2).bind fun t223 => (if t223 = true then (some false) else (if bt219.1 = 6 then (some (bt219.2 == 8)) else (some false)))) else (some false))) else (some false)) else (some false)) else (some false)) else (none)) else (some false)) else (some false)) else (some false)) else (some false)) else (some false))))) = some r := H
  have A1 := Aside0.mk A10
  clear A10
  replace H := Option.bind_eq_some_iff.mp H
  obtain ⟨⟨t210, t211, t214, t215⟩, A20, H⟩ := H
  replace H : ((words_Ones.f k t210 t211).bind fun bt217 => ((words_Half.f 12 10).bind fun bt219 => (if t208 = 0 then (if t215 = 0 then (if bt217.2 = 0 then (if t204 = 3 then (if (t205.length : Int) = 1 then (if 0 < (t205.length : Int) then (if (rd t205 0) = 5 then (if t214 = true then (if bt217.1 = 2 then ((words_Get.f t210 t211 1).bind fun t222 => (if t222 = true then ((words_Get.f t210 t211 2).bind fun t223 => (if t223 = true then (some false) else (if bt219.1 = 6 then (some (bt219.2 == 8)) else (some false)))) else (some false))) else (some false)) else (some false)) else (some false)) else (none)) else (some false)) else (some false)) else (some false)) else (some false)) else (some false)))) = some r := H
  have A2 := Aside0.mk A20
  clear A20
  replace H := Option.bind_eq_some_iff.mp H
  obtain ⟨⟨t217, t218⟩, A30, H⟩ := H
  replace H : ((words_Half.f 12 10).bind fun bt219 => (if t208 = 0 then (if t215 = 0 then (if t218 = 0 then (if t204 = 3 then (if (t205.length : Int) = 1 then (if 0 < (t205.length : Int) then (if (rd t205 0) = 5 then (if t214 = true then (if t217 = 2 then ((words_Get.f t210 t211 1).bind fun t222 => (if t222 = true then ((words_Get.f t210 t211 2).bind fun t223 => (if t223 = true then (some false) else (if bt219.1 = 6 then (some (bt219.2 == 8)) else (some false)))) else (some false))) else (some false)) else (some false)) else (some false)) else (none)) else (some false)) else (some false)) else (some false)) else (some false)) else (some false))) = some r := H
  have A3 := Aside0.mk A30
  clear A30
  replace H := Option.bind_eq_some_iff.mp H
  obtain ⟨⟨t219, t220⟩, A40, H⟩ := H
  replace H : (if t208 = 0 then (if t215 = 0 then (if t218 = 0 then (if t204 = 3 then (if (t205.length : Int) = 1 then (if 0 < (t205.length : Int) then (if (rd t205 0) = 5 then (if t214 = true then (if t217 = 2 then ((words_Get.f t210 t211 1).bind fun t222 => (if t222 = true then ((words_Get.f t210 t211 2).bind fun t223 => (if t223 = true then (some false) else (if t219 = 6 then (some (t220 == 8)) else (some false)))) else (some false))) else (some false)) else (some false)) else (some false)) else (none)) else (some false)) else (some false)) else (some false)) else (some false)) else (some false)) = some r := H
  have A4 := Aside0.mk A40
  clear A40
  by_cases c5 : t208 = 0
  · rw [if_pos c5] at H
    have c5b0 : (t208 == 0) = true := beq_iff_eq.mpr c5
    have c5b1 : (t208 != 0) = false := bne_eq_false_iff_eq.mpr c5
    clear c5
    by_cases c6 : t215 = 0
    · rw [if_pos c6] at H
      have c6b0 : (t215 == 0) = true := beq_iff_eq.mpr c6
      have c6b1 : (t215 != 0) = false := bne_eq_false_iff_eq.mpr c6
      clear c6
      by_cases c7 : t218 = 0
      · rw [if_pos c7] at H
        have c7b0 : (t218 == 0) = true := beq_iff_eq.mpr c7
        have c7b1 : (t218 != 0) = false := bne_eq_false_iff_eq.mpr c7
        clear c7
        by_cases c8 : t204 = 3
        · rw [if_pos c8] at H
          have c8b0 : (t204 == 3) = true := beq_iff_eq.mpr c8
          have c8b1 : (t204 != 3) = false := bne_eq_false_iff_eq.mpr c8
          clear c8
          by_cases c9 : (t205.length : Int) = 1
          · rw [if_pos c9] at H
            have c9b0 : ((t205.length : Int) == 1) = true := beq_iff_eq.mpr c9
            have c9b1 : ((t205.length : Int) != 1) = false := bne_eq_false_iff_eq.mpr c9
            clear c9
            by_cases c10 : 0 < (t205.length : Int)
            · rw [if_pos c10] at H
              have c10b0 : decide (0 < (t205.length : Int)) = true := decide_eq_true c10
              have c10b1 : decide (0 < t205.length) = true := decide_eq_true (by omega)
              clear c10
              by_cases c11 : (rd t205 0) = 5
              · rw [if_pos c11] at H
                have c11b0 : ((rd t205 0) == 5) = true := beq_iff_eq.mpr c11
                have c11b1 : ((rd t205 0) != 5) = false := bne_eq_false_iff_eq.mpr c11
                clear c11
                by_cases c12 : t214 = true
                · subst c12
                  have H1 : (if t217 = 2 then ((words_Get.f t210 t211 1).bind fun t222 => (if t222 = true then ((words_Get.f t210 t211 2).bind fun t223 => (if t223 = true then (some false) else (if t219 = 6 then (some (t220 == 8)) else (some false)))) else (some false))) else (some false)) = some r := by rw [if_pos rfl] at H; exact H
                  clear H
                  have H := H1
                  clear H1
                  by_cases c13 : t217 = 2
                  · rw [if_pos c13] at H
                    have c13b0 : (t217 == 2) = true := beq_iff_eq.mpr c13
                    have c13b1 : (t217 != 2) = false := bne_eq_false_iff_eq.mpr c13
                    clear c13
                    replace H := Option.bind_eq_some_iff.mp H
                    obtain ⟨t222, A140, H⟩ := H
                    replace H : (if t222 = true then ((words_Get.f t210 t211 2).bind fun t223 => (if t223 = true then (some false) else (if t219 = 6 then (some (t220 == 8)) else (some false)))) else (some false)) = some r := H
                    have A14 := Aside0.mk A140
                    clear A140
                    by_cases c15 : t222 = true
                    · subst c15
                      have H1 : ((words_Get.f t210 t211 2).bind fun t223 => (if t223 = true then (some false) else (if t219 = 6 then (some (t220 == 8)) else (some false)))) = some r := by rw [if_pos rfl] at H; exact H
                      clear H
                      have H := H1
                      clear H1
                      replace H := Option.bind_eq_some_iff.mp H
                      obtain ⟨t223, A160, H⟩ := H
                      replace H : (if t223 = true then (some false) else (if t219 = 6 then (some (t220 == 8)) else (some false))) = some r := H
                      have A16 := Aside0.mk A160
                      clear A160
                      by_cases c17 : t223 = true
                      · subst c17
                        have H1 : (some false) = some r := by rw [if_pos rfl] at H; exact H
                        exact absurd (Option.some.inj H1) (by rw [hrt_]; decide)
                      · replace c17 := Bool.eq_false_iff.mpr c17
                        subst c17
                        have H1 : (if t219 = 6 then (some (t220 == 8)) else (some false)) = some r := by rw [if_neg (show ¬ (false = true) by decide)] at H; exact H
                        clear H
                        have H := H1
                        clear H1
                        by_cases c36 : t219 = 6
                        · rw [if_pos c36] at H
                          have c36b0 : (t219 == 6) = true := beq_iff_eq.mpr c36
                          have c36b1 : (t219 != 6) = false := bne_eq_false_iff_eq.mpr c36
                          clear c36
                          obtain rfl := Option.some.inj H
                          go_enter Tryd.func7, Tryd.ntmps7
                          go_wp2_with (first | ((with_reducible refine gate_dst (N := 11) rfl ?_); (try (refine gate_guard (by rfl) ?_; dsimp only)); refine Kd.R_lit Kd.bool _ 4 ?hg (N := 11) ?hd (xs := ([true, false, true] : List Bool)) (inner := [.bool true, .bool false, .bool true]) (ok := fun _ => True) (okp := fun _ => True) ?hr ?hp (fun _ hk => hk) trivial (Below.refl _ _) (Nat.le_refl _) (by simp) ?_; (case hd => rfl); (case hg => rfl); (case hr => first | (go_simp; done) | (go_simp; rfl)); (case hp => exact (Reps.one (show Kd.M Kd.bool _ _ _ true [.bool true] from rfl) (Reps.one (show Kd.M Kd.bool _ _ _ false [.bool false] from rfl) (Reps.one (show Kd.M Kd.bool _ _ _ true [.bool true] from rfl) (Reps.none _ _))))); intro v202 w37 ho38 hb hg_ hnew_; clear hg_ hnew_; (first | rw [← Ny201.out] at ho38 | (simp only [Int.reduceToNat] at ho38; rw [← Ny201.out] at ho38)); have n0_ := Aside0.mk (Kd.R_lower ho38 (below_size (by repeat (first | (with_reducible first | exact HB.out | apply below_alloc | apply pw_below_drewN | apply below_drew1) | exact HB.out)))); have n1_ := Aside0.mk (below_step (by repeat (first | (with_reducible first | exact HB.out | apply below_alloc | apply pw_below_drewN | apply below_drew1) | exact HB.out)) hb); clear HB; have HO203 := n0_; have HB := n1_; clear n0_ n1_; clear hb ho38; obtain ⟨Ao39, co39, eo39⟩ := Kd.R_slice HO203.out; subst eo39) | ((with_reducible refine gate_callee (f := 26) rfl ?_); refine goesL_ (some 12) rfl rfl Tryd.func26 (by kernel_rfl) rfl #[.slice Ao39 y201.length co39] rfl (by (try simp only [List.map_toArray, List.map_cons, List.map_nil]); first | done | rfl | (simp only [List.length_drop, List.length_take]; rfl)) ?_; (with_reducible refine (words_Of.calls k _ _ y201 t204 t205 t208 _ ?side1 ?side2 A1.out).mono ?_); (case side1 => repeat (first | exact (Kd.R_reads' HO203.out).2.2 | (with_reducible refine Kd.C_alloc ?_ _) | (with_reducible refine Kd.C_drewN ?_ _) | (with_reducible refine Kd.C_drew ?_))); (case side2 => exact (Kd.R_reads' HO203.out).2.1); rintro e w40 ⟨v206, rfl, ho0, hb⟩; refine ⟨_, rfl, ?_⟩; have n0_ := Aside0.mk (Kd.R_below (by (with_reducible repeat (first | apply Kd.R_alloc | apply Kd.R_drewN | apply Kd.R_drew)); exact HO203.out) hb); have n1_ := Aside0.mk (Kd.R_lower ho0 (below_size (by repeat (first | (with_reducible first | exact HB.out | apply below_alloc | apply pw_below_drewN | apply below_drew1) | exact HB.out)))); have n2_ := Aside0.mk (below_step (by repeat (first | (with_reducible first | exact HB.out | apply below_alloc | apply pw_below_drewN | apply below_drew1) | exact HB.out)) hb); clear HO203; clear HB; have HO203 := n0_; have HO207 := n1_; have HB := n2_; clear n0_ n1_ n2_; (try clear hb); (try clear hb2); (try clear hk); (try clear hi); (try clear ho0)) | ((with_reducible refine gate_dst (N := 1) rfl ?_); (try (refine gate_guard (by rfl) ?_; dsimp only)); refine box_event ?hg (N := 1) ?hd (cs := #[.int .i64 0, .slice none 0 0]) (t := 24) ?hr ?_; (case hd => rfl); (case hg => rfl); (case hr => first | (go_simp; done) | (go_simp; rfl)); intro gb209 hg w41 hbox hb; have n0_ := Aside0.mk (Kd.R_below (by (with_reducible repeat (first | apply Kd.R_alloc | apply Kd.R_drewN | apply Kd.R_drew)); exact HO203.out) hb); have n1_ := Aside0.mk (Kd.R_below (by (with_reducible repeat (first | apply Kd.R_alloc | apply Kd.R_drewN | apply Kd.R_drew)); exact HO207.out) hb); have n2_ := Aside0.mk (below_step (by repeat (first | (with_reducible first | exact HB.out | apply below_alloc | apply pw_below_drewN | apply below_drew1) | exact HB.out)) hb); have n3_ := Aside0.mk (hbox); have n4_ := Aside0.mk ((by rw [hg]; exact (below_size (by repeat (first | (with_reducible first | exact HB.out | apply below_alloc | apply pw_below_drewN | apply below_drew1) | exact HB.out))) : w.heap.size ≤ gb209)); have n5_ := Aside0.mk ((by rw [hg]; exact (below_size (by repeat (first | (with_reducible first | exact HB.out | apply below_alloc | apply pw_below_drewN | apply below_drew1) | exact HB.out))) : w.heap.size ≤ gb209)); clear HO203; clear HO207; clear HB; have HO203 := n0_; have HO207 := n1_; have HB := n2_; have BK209 := n3_; have GW209 := n4_; have GE209 := n5_; clear n0_ n1_ n2_ n3_ n4_ n5_; clear hb hbox hg; have hcz42_0 : w41.cell? ⟨gb209, 0, none⟩ = some (.int .i64 0) := (blk_cell BK209.out 0).trans rfl; have hcz42_1 : w41.cell? ⟨gb209, 1, none⟩ = some (.slice none 0 0) := (blk_cell BK209.out 1).trans rfl; have hfz42_0 := blk_frozen BK209.out 0; have hfz42_1 := blk_frozen BK209.out 1; obtain ⟨Ao43, co43, eo43⟩ := Kd.R_slice HO207.out; subst eo43) | ((with_reducible refine gate_callee (f := 19) rfl ?_); refine goesL_ (some 17) rfl rfl Tryd.func19 (by kernel_rfl) rfl #[.agg #[.int .i64 t204, .slice Ao43 t205.length co43], .bool true] rfl (by (try simp only [List.map_toArray, List.map_cons, List.map_nil]); first | done | rfl | (simp only [List.length_drop, List.length_take]; rfl)) ?_; (with_reducible refine (words_Up.calls k t204 _ _ t205 true t210 t211 true t215 _ ?side1 ?side2 A2.out).mono ?_); (case side1 => refine (Kd.R_reads' (e := 58) (base := w.heap.size) (ok := fun k_ => True) (n := t205.length) (c := co43) ?_).2.2; exact (by (with_reducible repeat (first | apply Kd.R_alloc | apply Kd.R_drewN | apply Kd.R_drew)); exact (Kd.R_mono (Kd.R_far (p := ⟨gb209, 1, none⟩) (Kd.R_far (p := ⟨gb209, 0, none⟩) (Kd.R_types HO207.out BK209.out (by decide)) (fun _ hk => hk.2) (.int .i64 t204)) (fun _ hk => hk.2) (.slice Ao43 t205.length co43)) (fun _ h_ => h_.1)))); (case side2 => exact (Kd.R_reads' HO207.out).2.1); rintro e w44 ⟨v212, rfl, ho0, hb⟩; refine ⟨_, rfl, ?_⟩; have n0_ := Aside0.mk (Kd.R_below (by (with_reducible repeat (first | apply Kd.R_alloc | apply Kd.R_drewN | apply Kd.R_drew)); exact (Kd.R_mono (Kd.R_far (p := ⟨gb209, 1, none⟩) (Kd.R_far (p := ⟨gb209, 0, none⟩) (Kd.R_types HO203.out BK209.out (by decide)) (fun _ hk => hk.2) (.int .i64 t204)) (fun _ hk => hk.2) (.slice Ao43 t205.length co43)) (fun _ h_ => h_.1))) hb); have n1_ := Aside0.mk (Kd.R_elder' (by (with_reducible repeat (first | apply Kd.R_alloc | apply Kd.R_drewN | apply Kd.R_drew)); exact (Kd.R_mono (Kd.R_far (p := ⟨gb209, 1, none⟩) (Kd.R_far (p := ⟨gb209, 0, none⟩) (Kd.R_types HO207.out BK209.out (by decide)) (fun _ hk => hk.2) (.int .i64 t204)) (fun _ hk => hk.2) (.slice Ao43 t205.length co43)) (fun _ h_ => h_.1))) (Kd.R_base ho0) hb); have n2_ := Aside0.mk (Kd.R_lower (Kd.R_new' ho0 (Kd.R_lt (by (with_reducible repeat (first | apply Kd.R_alloc | apply Kd.R_drewN | apply Kd.R_drew)); exact (Kd.R_mono (Kd.R_far (p := ⟨gb209, 1, none⟩) (Kd.R_far (p := ⟨gb209, 0, none⟩) (Kd.R_types HO207.out BK209.out (by decide)) (fun _ hk => hk.2) (.int .i64 t204)) (fun _ hk => hk.2) (.slice Ao43 t205.length co43)) (fun _ h_ => h_.1))))) (below_size (by repeat (first | (with_reducible first | exact HB.out | apply below_alloc | apply pw_below_drewN | apply below_drew1 | refine below_set ?_ GE209.out) | exact HB.out)))); have n3_ := Aside0.mk (blk_below (g := gb209) (o := .cells #[.int .i64 t204, .slice Ao43 t205.length co43] 24 (0, 0)) (by (with_reducible repeat (first | refine blk_drewN ?_ _ | refine blk_drew ?_ | refine blk_alloc ?_ _)); refine blk_put (cs := #[.int .i64 t204, .slice none 0 0]) ?_ 1 _ rfl; (with_reducible repeat (first | refine blk_drewN ?_ _ | refine blk_drew ?_ | refine blk_alloc ?_ _)); refine blk_put (cs := #[.int .i64 0, .slice none 0 0]) ?_ 0 _ rfl; (with_reducible repeat (first | refine blk_drewN ?_ _ | refine blk_drew ?_ | refine blk_alloc ?_ _)); exact BK209.out) hb); have n4_ := Aside0.mk (below_step (by repeat (first | (with_reducible first | exact HB.out | apply below_alloc | apply pw_below_drewN | apply below_drew1 | refine below_set ?_ GE209.out) | exact HB.out)) hb); clear HO203; clear HO207; clear BK209; clear HB; have HO203 := n0_; have HO207 := n1_; have HO213 := n2_; have BK209 := n3_; have HB := n4_; clear n0_ n1_ n2_ n3_ n4_; (try clear hb); (try clear hb2); (try clear hk); (try clear hi); (try clear ho0)) | ((with_reducible refine gate_dst (N := 3) rfl ?_); (try (refine gate_guard (by rfl) ?_; dsimp only)); refine box_event ?hg (N := 3) ?hd (cs := #[.int .i64 0, .slice none 0 0]) (t := 24) ?hr ?_; (case hd => rfl); (case hg => rfl); (case hr => first | (go_simp; done) | (go_simp; rfl)); intro gb216 hg w45 hbox hb; have n0_ := Aside0.mk (Kd.R_below (by (with_reducible repeat (first | apply Kd.R_alloc | apply Kd.R_drewN | apply Kd.R_drew)); exact HO203.out) hb); have n1_ := Aside0.mk (Kd.R_below (by (with_reducible repeat (first | apply Kd.R_alloc | apply Kd.R_drewN | apply Kd.R_drew)); exact HO207.out) hb); have n2_ := Aside0.mk (Kd.R_below (by (with_reducible repeat (first | apply Kd.R_alloc | apply Kd.R_drewN | apply Kd.R_drew)); exact HO213.out) hb); have n3_ := Aside0.mk (blk_below (g := gb209) (o := .cells #[.int .i64 t204, .slice Ao43 t205.length co43] 24 (0, 0)) (by (with_reducible repeat (first | refine blk_drewN ?_ _ | refine blk_drew ?_ | refine blk_alloc ?_ _)); exact BK209.out) hb); have n4_ := Aside0.mk (below_step (by repeat (first | (with_reducible first | exact HB.out | apply below_alloc | apply pw_below_drewN | apply below_drew1 | refine below_set ?_ GE209.out) | exact HB.out)) hb); have n5_ := Aside0.mk (hbox); have n6_ := Aside0.mk ((by rw [hg]; exact (below_size (by repeat (first | (with_reducible first | exact HB.out | apply below_alloc | apply pw_below_drewN | apply below_drew1 | refine below_set ?_ GE209.out) | exact HB.out))) : w.heap.size ≤ gb216)); have n7_ := Aside0.mk ((by rw [hg]; exact (below_size (by repeat (first | (with_reducible first | exact HB.out | apply below_alloc | apply pw_below_drewN | apply below_drew1 | refine below_set ?_ GE209.out) | exact HB.out))) : w.heap.size ≤ gb216)); have n8_ := Aside0.mk ((by rw [hg]; exact Nat.ne_of_lt (blk_lt (g := gb209) (o := .cells #[.int .i64 t204, .slice Ao43 t205.length co43] 24 (0, 0)) (by (with_reducible repeat (first | refine blk_drewN ?_ _ | refine blk_drew ?_ | refine blk_alloc ?_ _)); exact BK209.out)) : gb209 ≠ gb216)); have n9_ := Aside0.mk ((by rw [hg]; exact Nat.ne_of_gt (blk_lt (g := gb209) (o := .cells #[.int .i64 t204, .slice Ao43 t205.length co43] 24 (0, 0)) (by (with_reducible repeat (first | refine blk_drewN ?_ _ | refine blk_drew ?_ | refine blk_alloc ?_ _)); exact BK209.out)) : gb216 ≠ gb209)); clear HO203; clear HO207; clear HO213; clear BK209; clear HB; have HO203 := n0_; have HO207 := n1_; have HO213 := n2_; have BK209 := n3_; have HB := n4_; have BK216 := n5_; have GW216 := n6_; have GE216 := n7_; have NB209_216 := n8_; have NB216_209 := n9_; clear n0_ n1_ n2_ n3_ n4_ n5_ n6_ n7_ n8_ n9_; clear hb hbox hg; have hnb46 := NB216_209.out; have hnc46 := NB209_216.out; have hcz47_0 : w45.cell? ⟨gb216, 0, none⟩ = some (.int .i64 0) := (blk_cell BK216.out 0).trans rfl; have hcz47_1 : w45.cell? ⟨gb216, 1, none⟩ = some (.slice none 0 0) := (blk_cell BK216.out 1).trans rfl; have hfz47_0 := blk_frozen BK216.out 0; have hfz47_1 := blk_frozen BK216.out 1; obtain ⟨Ao48, co48, eo48⟩ := Kd.R_slice HO213.out; subst eo48) | ((with_reducible refine gate_callee (f := 10) rfl ?_); refine goesL_ (some 23) rfl rfl Tryd.func10 (by kernel_rfl) rfl #[.agg #[.int .i64 t210, .slice Ao48 t211.length co48]] rfl (by (try simp only [List.map_toArray, List.map_cons, List.map_nil]); first | done | rfl | (simp only [List.length_drop, List.length_take]; rfl)) ?_; (with_reducible refine (words_Ones.calls k t210 _ _ t211 t217 t218 _ ?side1 ?side2 A3.out).mono ?_); (case side1 => refine (Kd.R_reads' (e := 58) (base := w.heap.size) (ok := fun k_ => (True ∧ some k_ ≠ (.slice Ao43 t205.length co43 : Value).ownBlock)) (n := t211.length) (c := co48) ?_).2.2; exact (by (with_reducible repeat (first | apply Kd.R_alloc | apply Kd.R_drewN | apply Kd.R_drew)); exact (Kd.R_mono (Kd.R_far (p := ⟨gb216, 1, none⟩) (Kd.R_far (p := ⟨gb216, 0, none⟩) (Kd.R_types HO213.out BK216.out (by decide)) (fun _ hk => hk.2) (.int .i64 t210)) (fun _ hk => hk.2) (.slice Ao48 t211.length co48)) (fun _ h_ => h_.1)))); (case side2 => exact (Kd.R_reads' HO213.out).2.1); rintro e w49 ⟨rfl, hb⟩; refine ⟨_, rfl, ?_⟩; have n0_ := Aside0.mk (Kd.R_below (by (with_reducible repeat (first | apply Kd.R_alloc | apply Kd.R_drewN | apply Kd.R_drew)); exact (Kd.R_mono (Kd.R_far (p := ⟨gb216, 1, none⟩) (Kd.R_far (p := ⟨gb216, 0, none⟩) (Kd.R_types HO203.out BK216.out (by decide)) (fun _ hk => hk.2) (.int .i64 t210)) (fun _ hk => hk.2) (.slice Ao48 t211.length co48)) (fun _ h_ => h_.1))) hb); have n1_ := Aside0.mk (Kd.R_below (by (with_reducible repeat (first | apply Kd.R_alloc | apply Kd.R_drewN | apply Kd.R_drew)); exact (Kd.R_mono (Kd.R_far (p := ⟨gb216, 1, none⟩) (Kd.R_far (p := ⟨gb216, 0, none⟩) (Kd.R_types HO207.out BK216.out (by decide)) (fun _ hk => hk.2) (.int .i64 t210)) (fun _ hk => hk.2) (.slice Ao48 t211.length co48)) (fun _ h_ => h_.1))) hb); have n2_ := Aside0.mk (Kd.R_below (by (with_reducible repeat (first | apply Kd.R_alloc | apply Kd.R_drewN | apply Kd.R_drew)); exact (Kd.R_mono (Kd.R_far (p := ⟨gb216, 1, none⟩) (Kd.R_far (p := ⟨gb216, 0, none⟩) (Kd.R_types HO213.out BK216.out (by decide)) (fun _ hk => hk.2) (.int .i64 t210)) (fun _ hk => hk.2) (.slice Ao48 t211.length co48)) (fun _ h_ => h_.1))) hb); have n3_ := Aside0.mk (blk_below (g := gb209) (o := .cells #[.int .i64 t204, .slice Ao43 t205.length co43] 24 (0, 0)) (by (with_reducible repeat (first | refine blk_drewN ?_ _ | refine blk_drew ?_ | refine blk_alloc ?_ _)); refine blk_far ?_ NB209_216.out _; (with_reducible repeat (first | refine blk_drewN ?_ _ | refine blk_drew ?_ | refine blk_alloc ?_ _)); refine blk_far ?_ NB209_216.out _; (with_reducible repeat (first | refine blk_drewN ?_ _ | refine blk_drew ?_ | refine blk_alloc ?_ _)); exact BK209.out) hb); have n4_ := Aside0.mk (blk_below (g := gb216) (o := .cells #[.int .i64 t210, .slice Ao48 t211.length co48] 24 (0, 0)) (by (with_reducible repeat (first | refine blk_drewN ?_ _ | refine blk_drew ?_ | refine blk_alloc ?_ _)); refine blk_put (cs := #[.int .i64 t210, .slice none 0 0]) ?_ 1 _ rfl; (with_reducible repeat (first | refine blk_drewN ?_ _ | refine blk_drew ?_ | refine blk_alloc ?_ _)); refine blk_put (cs := #[.int .i64 0, .slice none 0 0]) ?_ 0 _ rfl; (with_reducible repeat (first | refine blk_drewN ?_ _ | refine blk_drew ?_ | refine blk_alloc ?_ _)); exact BK216.out) hb); have n5_ := Aside0.mk (below_step (by repeat (first | (with_reducible first | exact HB.out | apply below_alloc | apply pw_below_drewN | apply below_drew1 | refine below_set ?_ GE209.out | refine below_set ?_ GE216.out) | exact HB.out)) hb); clear HO203; clear HO207; clear HO213; clear BK209; clear BK216; clear HB; have HO203 := n0_; have HO207 := n1_; have HO213 := n2_; have BK209 := n3_; have BK216 := n4_; have HB := n5_; clear n0_ n1_ n2_ n3_ n4_ n5_; (try clear hb); (try clear hb2); (try clear hk); (try clear hi)) | ((with_reducible refine gate_callee (f := 27) rfl ?_); refine goesL_ (some 27) rfl rfl Tryd.func27 (by kernel_rfl) rfl #[.int .u64 12, .int .u64 10] rfl (by (try simp only [List.map_toArray, List.map_cons, List.map_nil]); first | done | rfl | (simp only [List.length_drop, List.length_take]; rfl)) ?_; (with_reducible refine (words_Half.calls 12 10 t219 t220 _ A4.out).mono ?_); rintro e w' ⟨rfl, ⟨nd, rfl⟩⟩; refine ⟨_, rfl, ?_⟩; have hcz50_0 : w49.cell? ⟨gb209, 0, none⟩ = some (.int .i64 t204) := (blk_cell BK209.out 0).trans rfl; have hcz50_1 : w49.cell? ⟨gb209, 1, none⟩ = some (.slice Ao43 t205.length co43) := (blk_cell BK209.out 1).trans rfl; have hfz50_0 := blk_frozen BK209.out 0; have hfz50_1 := blk_frozen BK209.out 1; have p221 : 0 ≤ (0 : Int) := (by omega); have q221 : 0 < (t205.length : Int) := of_decide_eq_true (by first | (with_reducible assumption) | assumption); obtain ⟨ad221, e221, hx221_0⟩ := Kd.at_int (Kd.R_reads' HO207.out).2.2 0 p221 q221; cases e221; have qi221 : (0 < t205.length) = True := eq_true (by omega); (try rw [show ((0 : Int)).toNat = 0 from rfl] at hx221_0); (try rw [Addr.add_zero'] at hx221_0); replace p221 := eq_true p221; replace q221 := eq_true q221; have hcz51_0 : w49.cell? ⟨gb216, 0, none⟩ = some (.int .i64 t210) := (blk_cell BK216.out 0).trans rfl; have hcz51_1 : w49.cell? ⟨gb216, 1, none⟩ = some (.slice Ao48 t211.length co48) := (blk_cell BK216.out 1).trans rfl; have hfz51_0 := blk_frozen BK216.out 0; have hfz51_1 := blk_frozen BK216.out 1) | (go_at_call 25; (with_reducible refine (words_Get.calls t210 _ _ t211 1 true _ ?side1 ?side2 A14.out).mono ?_); (case side1 => repeat (first | exact (Kd.R_reads' HO213.out).2.2 | (with_reducible refine Kd.C_alloc ?_ _) | (with_reducible refine Kd.C_drewN ?_ _) | (with_reducible refine Kd.C_drew ?_))); (case side2 => exact (Kd.R_reads' HO213.out).2.1); rintro e w52 ⟨rfl, hb⟩; have n0_ := Aside0.mk (Kd.R_below (by (with_reducible repeat (first | apply Kd.R_alloc | apply Kd.R_drewN | apply Kd.R_drew)); exact HO203.out) hb); have n1_ := Aside0.mk (Kd.R_below (by (with_reducible repeat (first | apply Kd.R_alloc | apply Kd.R_drewN | apply Kd.R_drew)); exact HO207.out) hb); have n2_ := Aside0.mk (Kd.R_below (by (with_reducible repeat (first | apply Kd.R_alloc | apply Kd.R_drewN | apply Kd.R_drew)); exact HO213.out) hb); have n3_ := Aside0.mk (blk_below (g := gb209) (o := .cells #[.int .i64 t204, .slice (some ad221) t205.length co43] 24 (0, 0)) (by (with_reducible repeat (first | refine blk_drewN ?_ _ | refine blk_drew ?_ | refine blk_alloc ?_ _)); exact BK209.out) hb); have n4_ := Aside0.mk (blk_below (g := gb216) (o := .cells #[.int .i64 t210, .slice Ao48 t211.length co48] 24 (0, 0)) (by (with_reducible repeat (first | refine blk_drewN ?_ _ | refine blk_drew ?_ | refine blk_alloc ?_ _)); exact BK216.out) hb); have n5_ := Aside0.mk (below_step (by repeat (first | (with_reducible first | exact HB.out | apply below_alloc | apply pw_below_drewN | apply below_drew1 | refine below_set ?_ GE209.out | refine below_set ?_ GE216.out) | exact HB.out)) hb); clear HO203; clear HO207; clear HO213; clear BK209; clear BK216; clear HB; have HO203 := n0_; have HO207 := n1_; have HO213 := n2_; have BK209 := n3_; have BK216 := n4_; have HB := n5_; clear n0_ n1_ n2_ n3_ n4_ n5_; (try clear hb); (try clear hb2); (try clear hk); (try clear hi); have hcz53_0 : w52.cell? ⟨gb216, 0, none⟩ = some (.int .i64 t210) := (blk_cell BK216.out 0).trans rfl; have hcz53_1 : w52.cell? ⟨gb216, 1, none⟩ = some (.slice Ao48 t211.length co48) := (blk_cell BK216.out 1).trans rfl; have hfz53_0 := blk_frozen BK216.out 0; have hfz53_1 := blk_frozen BK216.out 1) | (go_at_call 25; (with_reducible refine (words_Get.calls t210 _ _ t211 2 false _ ?side1 ?side2 A16.out).mono ?_); (case side1 => repeat (first | exact (Kd.R_reads' HO213.out).2.2 | (with_reducible refine Kd.C_alloc ?_ _) | (with_reducible refine Kd.C_drewN ?_ _) | (with_reducible refine Kd.C_drew ?_))); (case side2 => exact (Kd.R_reads' HO213.out).2.1); rintro e w54 ⟨rfl, hb⟩; have n0_ := Aside0.mk (Kd.R_below (by (with_reducible repeat (first | apply Kd.R_alloc | apply Kd.R_drewN | apply Kd.R_drew)); exact HO203.out) hb); have n1_ := Aside0.mk (Kd.R_below (by (with_reducible repeat (first | apply Kd.R_alloc | apply Kd.R_drewN | apply Kd.R_drew)); exact HO207.out) hb); have n2_ := Aside0.mk (Kd.R_below (by (with_reducible repeat (first | apply Kd.R_alloc | apply Kd.R_drewN | apply Kd.R_drew)); exact HO213.out) hb); have n3_ := Aside0.mk (blk_below (g := gb209) (o := .cells #[.int .i64 t204, .slice (some ad221) t205.length co43] 24 (0, 0)) (by (with_reducible repeat (first | refine blk_drewN ?_ _ | refine blk_drew ?_ | refine blk_alloc ?_ _)); exact BK209.out) hb); have n4_ := Aside0.mk (blk_below (g := gb216) (o := .cells #[.int .i64 t210, .slice Ao48 t211.length co48] 24 (0, 0)) (by (with_reducible repeat (first | refine blk_drewN ?_ _ | refine blk_drew ?_ | refine blk_alloc ?_ _)); exact BK216.out) hb); have n5_ := Aside0.mk (below_step (by repeat (first | (with_reducible first | exact HB.out | apply below_alloc | apply pw_below_drewN | apply below_drew1 | refine below_set ?_ GE209.out | refine below_set ?_ GE216.out) | exact HB.out)) hb); clear HO203; clear HO207; clear HO213; clear BK209; clear BK216; clear HB; have HO203 := n0_; have HO207 := n1_; have HO213 := n2_; have BK209 := n3_; have BK216 := n4_; have HB := n5_; clear n0_ n1_ n2_ n3_ n4_ n5_; (try clear hb); (try clear hb2); (try clear hk); (try clear hi)))
                          go_ret
                          exact ⟨by first | rfl | (simp [errW_none, errW_some] <;> rfl) | (simp [*, errW_none, errW_some] <;> rfl), by repeat (first | (with_reducible first | exact HB.out | apply below_alloc | apply pw_below_drewN | apply below_drew1 | refine below_set ?_ GE209.out | refine below_set ?_ GE216.out) | exact HB.out)⟩
                        · rw [if_neg c36] at H
                          exact absurd (Option.some.inj H) (by rw [hrt_]; decide)
                    · replace c15 := Bool.eq_false_iff.mpr c15
                      subst c15
                      have H1 : (some false) = some r := by rw [if_neg (show ¬ (false = true) by decide)] at H; exact H
                      exact absurd (Option.some.inj H1) (by rw [hrt_]; decide)
                  · rw [if_neg c13] at H
                    exact absurd (Option.some.inj H) (by rw [hrt_]; decide)
                · replace c12 := Bool.eq_false_iff.mpr c12
                  subst c12
                  have H1 : (some false) = some r := by rw [if_neg (show ¬ (false = true) by decide)] at H; exact H
                  exact absurd (Option.some.inj H1) (by rw [hrt_]; decide)
              · rw [if_neg c11] at H
                exact absurd (Option.some.inj H) (by rw [hrt_]; decide)
            · rw [if_neg c10] at H
              exact absurd H (by simp)
          · rw [if_neg c9] at H
            exact absurd (Option.some.inj H) (by rw [hrt_]; decide)
        · rw [if_neg c8] at H
          exact absurd (Option.some.inj H) (by rw [hrt_]; decide)
      · rw [if_neg c7] at H
        exact absurd (Option.some.inj H) (by rw [hrt_]; decide)
    · rw [if_neg c6] at H
      exact absurd (Option.some.inj H) (by rw [hrt_]; decide)
  · rw [if_neg c5] at H
    exact absurd (Option.some.inj H) (by rw [hrt_]; decide)
end Go.Proofs.YtlghmadoogblcaaDoor.PW
end
section
namespace Go.Proofs.YtlghmadoogblcaaDoor.Alive
open Go.RowKit Go.Proofs.YtlghmadoogblcaaDoor.PW Go.Proofs.YtlghmadoogblcaaDoorW.PrintWords Go.Proofs.YtlghmadoogblcaaDoorW.PrintLast Go.Proofs.YtlghmadoogblcaaDoorW.PrintMore
set_option maxRecDepth 100000
theorem alive_true : vivariumlaw02_alive.f 100 = some true := by decide +kernel
end Go.Proofs.YtlghmadoogblcaaDoor.Alive
end
section
namespace Go.Proofs.YtlghmadoogblcaaDoor.Bits
open Go Go.RowKit Go.Proofs.YtlghmadoogblcaaDoor.PW Go.Proofs.YtlghmadoogblcaaDoorW.PrintWords Go.Proofs.YtlghmadoogblcaaDoorW.PrintLast Go.Proofs.YtlghmadoogblcaaDoorW.PrintMore
set_option maxRecDepth 100000
theorem wrapU_small (n : Nat) (h : n < 18446744073709551616) : IntKind.u64.wrap (n : Int) = (n : Int) := by
  rw [IntKind.wrap_u64]; omega
def bit (n i : Nat) : Nat := (n.testBit i).toNat
theorem shr_nat (n i : Nat) (hi : i ≤ 64) : shr .u64 (n : Int) (i : Int) = ((n / 2 ^ i : Nat) : Int) := by
  unfold shr
  rw [Int.toNat_natCast, Nat.min_eq_left (by simpa [IntKind.bits] using hi)]
  simp
theorem bit_div (n i : Nat) : n / 2 ^ i % 2 = bit n i := by
  unfold bit; rw [Nat.toNat_testBit]
theorem tmod_bit (n i : Nat) (hi : i ≤ 64) : Int.tmod (shr .u64 (n : Int) (i : Int)) 2 = (bit n i : Int) := by
  rw [shr_nat n i hi, ← bit_div]
  exact (Int.ofNat_tmod _ _).symm
theorem and_bit (n i : Nat) (hn : n < 18446744073709551616) (hi : i ≤ 64) : Go.bits .and .u64 (shr .u64 (n : Int) (i : Int)) 1 = (bit n i : Int) := by
  rw [shr_nat n i hi, show (1 : Int) = ((1 : Nat) : Int) from rfl,
    bits_and_u64_nat _ _ (Nat.lt_of_le_of_lt (Nat.div_le_self _ _) hn) (by decide), Nat.and_one_is_mod, bit_div]
theorem shl_bit (b i : Nat) (hb : b < 2) (hi : i < 64) : shl .u64 (b : Int) (i : Int) = ((b * 2 ^ i : Nat) : Int) := by
  unfold shl
  rw [Int.toNat_natCast, Nat.min_eq_left (by simp [IntKind.bits]; omega)]
  have : b * 2 ^ i < 18446744073709551616 := by
    have h1 : 2 ^ i ≤ 2 ^ 63 := Nat.pow_le_pow_right (by decide) (by omega)
    have h2 : b * 2 ^ i ≤ 1 * 2 ^ 63 := Nat.mul_le_mul (by omega) h1
    omega
  have e : (b : Int) * 2 ^ i = ((b * 2 ^ i : Nat) : Int) := by simp
  rw [e, wrapU_small _ this]
end Go.Proofs.YtlghmadoogblcaaDoor.Bits
end
section
namespace Go.Proofs.YtlghmadoogblcaaDoor.Rowp
open Go Go.RowKit Go.Proofs.YtlghmadoogblcaaDoor.PW Go.Proofs.YtlghmadoogblcaaDoorW.PrintWords Go.Proofs.YtlghmadoogblcaaDoorW.PrintLast Go.Proofs.YtlghmadoogblcaaDoorW.PrintMore Go.Proofs.YtlghmadoogblcaaDoor.Bits
set_option maxRecDepth 100000
set_option linter.unusedVariables false
def rowOf (m : Nat) (W : Nat → Nat) : List Int := (List.range m).map fun i => (W i : Int)
@[simp] theorem rowOf_len (m : Nat) (W : Nat → Nat) : (rowOf m W).length = m := by simp [rowOf]
theorem rowOf_get (m : Nat) (W : Nat → Nat) (i : Nat) (h : i < m) : (rowOf m W)[i]? = some (W i : Int) := by simp [rowOf, h]
theorem rowOf_rd (m : Nat) (W : Nat → Nat) (i : Nat) (h : i < m) : rd (rowOf m W) (i : Int) = (W i : Int) := by
  simp [rd, List.getD_eq_getElem?_getD, rowOf_get m W i h]
theorem rowOf_congr {m : Nat} {W W' : Nat → Nat} (h : ∀ i, i < m → W i = W' i) : rowOf m W = rowOf m W' := by
  unfold rowOf
  exact List.map_congr_left (fun i hi => by rw [h i (List.mem_range.1 hi)])
theorem rowOf_set (m : Nat) (W : Nat → Nat) (i x : Nat) : (rowOf m W).set ((i : Int)).toNat (x : Int) = rowOf m (fun t => if t = i then x else W t) := by
  apply List.ext_getElem?
  intro j
  rw [Int.toNat_natCast, List.getElem?_set]
  by_cases hj : j < m
  · rw [rowOf_get m _ j hj, rowOf_get m _ j hj]
    by_cases e : i = j
    · subst e; simp [hj]
    · simp [e, Ne.symm e]
  · have h1 : (rowOf m W)[j]? = none := by simp [rowOf]; omega
    have h2 : (rowOf m fun t => if t = i then x else W t)[j]? = none := by simp [rowOf]; omega
    rw [h1, h2]
    by_cases e : i = j
    · subst e; simp [hj]
    · simp [e]
def nw (n : Nat) : Nat := (n + 63) / 64
def ones : Nat := 18446744073709551615
def mask (n : Nat) : Nat := if n % 64 = 0 then ones else 2 ^ (n % 64) - 1
theorem mask_lt (n : Nat) : mask n < 18446744073709551616 := by
  unfold mask ones
  split
  · decide
  · have : 2 ^ (n % 64) ≤ 2 ^ 63 := Nat.pow_le_pow_right (by decide) (by omega)
    omega
structure Good (n : Nat) (W : Nat → Nat) : Prop where
  le : n ≤ 65538
  lt : ∀ i, i < nw n → W i < 18446744073709551616
  last : 0 < n → W (nw n - 1) &&& mask n = W (nw n - 1)
theorem w64 (x : Int) (h : -9223372036854775808 ≤ x ∧ x ≤ 9223372036854775807) : wrap64 x = x := by unfold wrap64; omega
theorem nwI (n : Nat) (h : n ≤ 65538) : wrap64 (Int.tdiv (wrap64 ((n : Int) + 63)) 64) = ((nw n : Nat) : Int) := by
  rw [w64 ((n : Int) + 63) (by omega)]
  have : Int.tdiv ((n : Int) + 63) 64 = ((nw n : Nat) : Int) := by
    unfold nw
    rw [show (n : Int) + 63 = ((n + 63 : Nat) : Int) by omega]
    exact (Int.ofNat_tdiv _ _).symm
  rw [this, w64]
  unfold nw; omega
theorem last_spec (n : Nat) : words_last.f (n : Int) = some ((mask n : Nat) : Int) := by
  unfold words_last.f mask
  have e : Int.tmod (n : Int) 64 = ((n % 64 : Nat) : Int) := (Int.ofNat_tmod _ _).symm
  rw [e]
  by_cases h : n % 64 = 0
  · rw [if_pos (by omega), if_pos h]; rfl
  · rw [if_neg (by omega), if_pos (by omega), if_neg h, show (1 : Int) = ((1 : Nat) : Int) from rfl, shl_bit 1 (n % 64) (by decide) (by omega), Nat.one_mul]
    have h1 : 2 ^ (n % 64) ≤ 2 ^ 63 := Nat.pow_le_pow_right (by decide) (by omega)
    have h2 : 0 < 2 ^ (n % 64) := Nat.pow_pos (by decide)
    have e2 : ((2 ^ (n % 64) : Nat) : Int) - ((1 : Nat) : Int) = ((2 ^ (n % 64) - 1 : Nat) : Int) := by omega
    rw [e2, wrapU_small _ (by omega)]
theorem andNot_zero (x m : Nat) (hx : x < 18446744073709551616) (hm : m < 18446744073709551616) (h : x &&& m = x) : Go.bits .andNot .u64 (x : Int) (m : Int) = 0 := by
  have h1 : (BitVec.ofInt 64 (x : Int)).toNat = x := by
    rw [BitVec.ofInt_natCast, BitVec.toNat_ofNat]; exact Nat.mod_eq_of_lt (by omega)
  have h2 : (BitVec.ofInt 64 (m : Int)).toNat = m := by
    rw [BitVec.ofInt_natCast, BitVec.toNat_ofNat]; exact Nat.mod_eq_of_lt (by omega)
  have hb : BitVec.ofInt 64 (x : Int) &&& BitVec.ofInt 64 (m : Int) = BitVec.ofInt 64 (x : Int) := by
    apply BitVec.eq_of_toNat_eq
    rw [BitVec.toNat_and, h1, h2, h]
  have hz : BitVec.ofInt 64 (x : Int) &&& ~~~ BitVec.ofInt 64 (m : Int) = 0#64 := by
    rw [← hb]
    generalize BitVec.ofInt 64 (x : Int) = X
    generalize BitVec.ofInt 64 (m : Int) = M
    ext i hi
    simp
  show IntKind.u64.wrap ((BitVec.ofInt 64 (x : Int) &&& ~~~ BitVec.ofInt 64 (m : Int)).toNat : Int) = 0
  rw [hz]; rfl
theorem valid_spec {n : Nat} {W : Nat → Nat} (g : Good n W) : words_Valid.f (n : Int) (rowOf (nw n) W) = some true := by
  unfold words_Valid.f
  have hle := g.le
  rw [if_neg (by omega), if_neg (by omega), nwI n hle, rowOf_len, if_pos rfl]
  by_cases h0 : nw n = 0
  · rw [if_pos (by omega)]
  · rw [if_neg (by omega)]
    have hm : nw n ≤ 1025 := by unfold nw; omega
    rw [w64 (((nw n : Nat) : Int) - 1) (by omega), if_pos (by omega), if_pos (by omega), last_spec]
    simp only [Option.bind_some]
    have e : ((nw n : Nat) : Int) - 1 = ((nw n - 1 : Nat) : Int) := by omega
    have hn : 0 < n := by unfold nw at h0; omega
    rw [e, rowOf_rd _ _ _ (by omega), andNot_zero _ _ (g.lt _ (by omega)) (mask_lt n) (g.last hn)]
    rfl
theorem blank_spec (n : Nat) (h : n ≤ 65538) : words_blank.f (n : Int) = some ((n : Int), List.replicate (nw n) 0) := by
  unfold words_blank.f
  have hm : nw n ≤ 1025 := by unfold nw; omega
  rw [nwI n h, if_pos (by omega), if_pos (by omega), Int.toNat_natCast]
theorem clone_spec (n : Nat) (h : n ≤ 65538) (R : List Int) (hR : R.length = nw n) : words_clone.f (n : Int) R = some ((n : Int), R) := by
  unfold words_clone.f
  rw [blank_spec n h]
  simp [hR, List.take_of_length_le (Nat.le_of_eq hR)]
theorem bits_or_n (a b : Nat) (ha : a < 18446744073709551616) (hb : b < 18446744073709551616) : a ||| b < 18446744073709551616 := Nat.or_lt_two_pow (n := 64) ha hb
theorem ones_bit (i : Nat) : ones.testBit i = decide (i < 64) := by
  rw [show ones = 2 ^ 64 - 1 from rfl, Nat.testBit_two_pow_sub_one]
theorem high (x i : Nat) (h : x < 18446744073709551616) (hi : ¬ i < 64) : x.testBit i = false :=
  Nat.testBit_lt_two_pow (Nat.lt_of_lt_of_le h (Nat.pow_le_pow_right (n := 2) (i := 64) (by decide) (by omega)))
theorem rowOf_zero (m : Nat) : rowOf m (fun _ => 0) = List.replicate m (0 : Int) := by
  apply List.ext_getElem?
  intro i
  by_cases h : i < m
  · rw [rowOf_get m _ i h, List.getElem?_replicate, if_pos h]; rfl
  · have : (rowOf m fun _ => 0)[i]? = none := by simp [rowOf]; omega
    rw [this, List.getElem?_replicate, if_neg h]
def setBit (W : Nat → Nat) (i t : Nat) : Nat := if t = i / 64 then W (i / 64) ||| 2 ^ (i % 64) else W t
theorem pow_lt64 (i : Nat) (h : i < 64) : 2 ^ i < 18446744073709551616 := by
  have : 2 ^ i ≤ 2 ^ 63 := Nat.pow_le_pow_right (by decide) (by omega)
  omega
end Go.Proofs.YtlghmadoogblcaaDoor.Rowp
end
section
namespace Go.Proofs.YtlghmadoogblcaaDoor.RefPlain
open Go Go.RowKit Go.Proofs.YtlghmadoogblcaaDoor.PW Go.Proofs.YtlghmadoogblcaaDoor.PB Go.Proofs.YtlghmadoogblcaaDoorW.PrintWords Go.Proofs.YtlghmadoogblcaaDoorW.PrintLast Go.Proofs.YtlghmadoogblcaaDoorW.PrintMore Go.Proofs.YtlghmadoogblcaaDoor.Bits Go.Proofs.YtlghmadoogblcaaDoor.Rowp
set_option maxRecDepth 100000
set_option linter.unusedVariables false
def bitAt (W : Nat → Nat) (i : Nat) : Bool := (W (i / 64)).testBit (i % 64)
theorem nw_le {n : Nat} (h : n ≤ 65538) : nw n ≤ 1025 := by unfold nw; omega
theorem lt_nw {n i : Nat} (h : i < n) : i / 64 < nw n := by unfold nw; omega
theorem n_le (n : Nat) : n ≤ 64 * nw n := by unfold nw; omega
theorem mask_bit (n b : Nat) : (mask n).testBit b = if n % 64 = 0 then decide (b < 64) else decide (b < n % 64) := by
  unfold mask
  split
  · exact ones_bit b
  · exact Nat.testBit_two_pow_sub_one _ _
theorem good_high {n : Nat} {W : Nat → Nat} (g : Rowp.Good n W) (i : Nat) (h1 : n ≤ i) (h2 : i < 64 * nw n) : bitAt W i = false := by
  have hn : 0 < n := by
    rcases Nat.eq_zero_or_pos n with h0 | h0
    · subst h0; unfold nw at h2; omega
    · exact h0
  have e : i / 64 = nw n - 1 := by unfold nw at *; omega
  have hl := g.last hn
  unfold bitAt
  rw [e, ← hl, Nat.testBit_and, mask_bit]
  have h3 : n % 64 ≠ 0 := by unfold nw at *; omega
  rw [if_neg h3]
  have h4 : ¬ i % 64 < n % 64 := by unfold nw at *; omega
  simp [h4]
theorem good_of_bits {n : Nat} {W : Nat → Nat} (hn : n ≤ 65538) (hlt : ∀ t, t < nw n → W t < 18446744073709551616) (h : ∀ i, n ≤ i → i < 64 * nw n → bitAt W i = false) : Rowp.Good n W := by
  refine ⟨hn, hlt, fun h0 => Nat.eq_of_testBit_eq fun b => ?_⟩
  rw [Nat.testBit_and, mask_bit]
  have hw := hlt (nw n - 1) (by unfold nw; omega)
  by_cases hb : b < 64
  · by_cases hz : n % 64 = 0
    · rw [if_pos hz, decide_eq_true hb, Bool.and_true]
    · rw [if_neg hz]
      by_cases hb2 : b < n % 64
      · rw [decide_eq_true hb2, Bool.and_true]
      · have := h (64 * (nw n - 1) + b) (by unfold nw at *; omega) (by unfold nw at *; omega)
        unfold bitAt at this
        rw [show (64 * (nw n - 1) + b) / 64 = nw n - 1 by omega, show (64 * (nw n - 1) + b) % 64 = b by omega] at this
        rw [this, Bool.false_and]
  · rw [high _ _ hw hb, Bool.false_and]
theorem row_eq {n : Nat} {V W : Nat → Nat} (gv : Rowp.Good n V) (gw : Rowp.Good n W) (h : ∀ i, i < n → bitAt V i = bitAt W i) : rowOf (nw n) V = rowOf (nw n) W := by
  refine rowOf_congr (fun t ht => Nat.eq_of_testBit_eq fun b => ?_)
  by_cases hb : b < 64
  · have e : bitAt V (64 * t + b) = bitAt W (64 * t + b) := by
      by_cases hi : 64 * t + b < n
      · exact h _ hi
      · rw [good_high gv _ (by omega) (by omega), good_high gw _ (by omega) (by omega)]
    unfold bitAt at e
    rwa [show (64 * t + b) / 64 = t by omega, show (64 * t + b) % 64 = b by omega] at e
  · rw [high _ _ (gv.lt t ht) hb, high _ _ (gw.lt t ht) hb]
theorem tdiv64 (i : Nat) : Int.tdiv (i : Int) 64 = ((i / 64 : Nat) : Int) := (Int.ofNat_tdiv _ _).symm
theorem tmod64 (i : Nat) : Int.tmod (i : Int) 64 = ((i % 64 : Nat) : Int) := (Int.ofNat_tmod _ _).symm
theorem bit_one (x b : Nat) : ((bit x b : Int) == 1) = x.testBit b := by unfold bit; cases x.testBit b <;> rfl
theorem refbit_spec (n0 : Int) (m : Nat) (W : Nat → Nat) (hm : m ≤ 1025) (i : Nat) (hi : i < 64 * m) : vivariumref02_bit.f n0 (rowOf m W) (i : Int) = some (bitAt W i) := by
  unfold vivariumref02_bit.f
  have h1 : i / 64 < m := by omega
  have h2 : i % 64 < 64 := Nat.mod_lt _ (by decide)
  rw [tdiv64, tmod64, w64 ((i / 64 : Nat) : Int) (by omega), if_pos (by omega), rowOf_len, if_pos (by omega), wrapU_small (i % 64) (by omega), if_pos (by omega), rowOf_rd _ _ _ h1, tmod_bit _ _ (by omega), bit_one]
  rfl
theorem refvalid_loop (n0 : Int) (m : Nat) (W : Nat → Nat) (hm : m ≤ 1025) : ∀ (j k x : Nat) (xI : Int), xI = x → x + j = 64 * m → j < k →
    vivariumref02_Valid.l0 k xI n0 (rowOf m W) = some (decide (∀ i, i < 64 * m → x ≤ i → bitAt W i = false))
  | 0, k + 1, x, _, rfl, h, _ => by
    rw [vivariumref02_Valid.l0, rowOf_len, w64 (64 * ((m : Nat) : Int)) (by omega), if_neg (by omega), decide_eq_true (fun i h1 h2 => by omega)]
  | j + 1, k + 1, x, _, rfl, h, hk => by
    rw [vivariumref02_Valid.l0, rowOf_len, w64 (64 * ((m : Nat) : Int)) (by omega), if_pos (by omega), refbit_spec n0 m W hm x (by omega), Option.bind_some]
    by_cases hb : bitAt W x = true
    · rw [if_pos hb, decide_eq_false]
      intro hall
      have := hall x (by omega) (Nat.le_refl _)
      rw [hb] at this
      cases this
    · rw [if_neg hb, w64 ((x : Int) + 1) (by omega), refvalid_loop n0 m W hm j k (x + 1) _ (by omega) (by omega) (by omega)]
      congr 1
      refine decide_eq_decide.2 ⟨fun hall i h2 h1 => ?_, fun hall i h2 h1 => hall i h2 (by omega)⟩
      by_cases hx : i = x
      · subst hx; simpa using hb
      · exact hall i h2 (by omega)
theorem refvalid_at (n : Nat) (hn : n ≤ 65538) (W : Nat → Nat) (k : Nat) (hk : 70000 < k) : vivariumref02_Valid.f k (n : Int) (rowOf (nw n) W) = some (decide (∀ i, i < 64 * nw n → n ≤ i → bitAt W i = false)) := by
  have hm := nw_le hn
  have hl := n_le n
  obtain ⟨k, rfl⟩ : ∃ q, k = q + 1 := ⟨k - 1, by omega⟩
  unfold vivariumref02_Valid.f
  rw [if_neg (by omega), if_neg (by omega), nwI n hn, rowOf_len, show (((nw n : Nat) : Int) != ((nw n : Nat) : Int)) = false by simp, vivariumref02_Valid.j0, if_neg (by decide)]
  exact refvalid_loop _ _ W hm (64 * nw n - n) k n _ rfl (by omega) (by omega)
theorem refvalid_good {n : Nat} {W : Nat → Nat} (g : Rowp.Good n W) (k : Nat) (hk : 70000 < k) : vivariumref02_Valid.f k (n : Int) (rowOf (nw n) W) = some true := by
  rw [refvalid_at n g.le W k hk, decide_eq_true (fun i h2 h1 => good_high g i h1 h2)]
theorem rowOf_all (xs : List Int) (h : ∀ v ∈ xs, 0 ≤ v ∧ v < 18446744073709551616) : ∃ W : Nat → Nat, xs = rowOf xs.length W ∧ ∀ t, t < xs.length → W t < 18446744073709551616 := by
  refine ⟨fun t => (xs.getD t 0).toNat, ?_, fun t ht => ?_⟩
  · apply List.ext_getElem?
    intro i
    by_cases hi : i < xs.length
    · rw [rowOf_get _ _ _ hi, List.getD_eq_getElem?_getD, List.getElem?_eq_getElem hi]
      have := h _ (List.getElem_mem hi)
      simp
      omega
    · have : (rowOf xs.length fun t => (xs.getD t 0).toNat)[i]? = none := by simp [rowOf]; omega
      rw [this, List.getElem?_eq_none (by omega)]
  · have := h _ (List.getElem_mem ht)
    show (xs.getD t 0).toNat < _
    rw [List.getD_eq_getElem?_getD, List.getElem?_eq_getElem ht]
    simp
    omega
theorem andNot_conv (x m : Nat) (hx : x < 18446744073709551616) (hm : m < 18446744073709551616) (h : Go.bits .andNot .u64 (x : Int) (m : Int) = 0) : x &&& m = x := by
  have h1 : (BitVec.ofInt 64 (x : Int)).toNat = x := by
    rw [BitVec.ofInt_natCast, BitVec.toNat_ofNat]; exact Nat.mod_eq_of_lt (by omega)
  have h2 : (BitVec.ofInt 64 (m : Int)).toNat = m := by
    rw [BitVec.ofInt_natCast, BitVec.toNat_ofNat]; exact Nat.mod_eq_of_lt (by omega)
  have h' : IntKind.u64.wrap ((BitVec.ofInt 64 (x : Int) &&& ~~~ BitVec.ofInt 64 (m : Int)).toNat : Int) = 0 := h
  have hlt := (BitVec.ofInt 64 (x : Int) &&& ~~~ BitVec.ofInt 64 (m : Int)).isLt
  rw [wrapU_small _ (by omega)] at h'
  have hz : BitVec.ofInt 64 (x : Int) &&& ~~~ BitVec.ofInt 64 (m : Int) = 0#64 := BitVec.eq_of_toNat_eq (by simpa using h')
  have hb : BitVec.ofInt 64 (x : Int) &&& BitVec.ofInt 64 (m : Int) = BitVec.ofInt 64 (x : Int) := by
    revert hz
    generalize BitVec.ofInt 64 (x : Int) = X
    generalize BitVec.ofInt 64 (m : Int) = M
    intro hz
    ext i hi
    have := congrArg (fun q => q.getLsbD i) hz
    simp only [BitVec.getLsbD_and, BitVec.getLsbD_not, BitVec.getLsbD_zero, hi, decide_true, Bool.true_and] at this
    simp only [BitVec.getElem_and]
    simp only [← BitVec.getLsbD_eq_getElem]
    cases hX : X.getLsbD i <;> cases hM : M.getLsbD i <;> simp_all
  have := congrArg BitVec.toNat hb
  rwa [BitVec.toNat_and, h1, h2] at this
theorem row_cases (n : Int) (xs : List Int) (h : ∀ v ∈ xs, 0 ≤ v ∧ v < 18446744073709551616) :
    (∃ (m : Nat) (W : Nat → Nat), n = (m : Int) ∧ xs = rowOf (nw m) W ∧ Rowp.Good m W) ∨ (words_Valid.f n xs = some false ∧ ∀ k, 70000 < k → vivariumref02_Valid.f k n xs = some false) := by
  by_cases h0 : n < 0
  · right
    refine ⟨by unfold words_Valid.f; rw [if_pos h0], fun k hk => ?_⟩
    obtain ⟨k, rfl⟩ : ∃ q, k = q + 1 := ⟨k - 1, by omega⟩
    unfold vivariumref02_Valid.f
    rw [if_pos h0, vivariumref02_Valid.j0, if_pos rfl]
  by_cases h1 : n > 65538
  · right
    refine ⟨by unfold words_Valid.f; rw [if_neg h0, if_pos h1], fun k hk => ?_⟩
    obtain ⟨k, rfl⟩ : ∃ q, k = q + 1 := ⟨k - 1, by omega⟩
    unfold vivariumref02_Valid.f
    rw [if_neg h0, if_pos h1, vivariumref02_Valid.j0, if_pos rfl]
  obtain ⟨m, rfl⟩ : ∃ m : Nat, n = (m : Int) := ⟨n.toNat, by omega⟩
  have hm : m ≤ 65538 := by omega
  by_cases hl : xs.length = nw m
  · obtain ⟨W, hW, hlt⟩ := rowOf_all xs h
    rw [hl] at hW hlt
    by_cases hg : ∀ i, i < 64 * nw m → m ≤ i → bitAt W i = false
    · exact .inl ⟨m, W, rfl, hW, good_of_bits hm hlt (fun i a b => hg i b a)⟩
    · right
      refine ⟨?_, fun k hk => by rw [hW, refvalid_at m hm W k hk, decide_eq_false hg]⟩
      rw [hW]
      unfold words_Valid.f
      rw [if_neg (by omega), if_neg (by omega), nwI m hm, rowOf_len, if_pos rfl]
      have hz : nw m ≠ 0 := by
        intro e
        exact hg (fun i b a => by rw [e] at b; omega)
      have hle := nw_le hm
      rw [if_neg (by omega), w64 (((nw m : Nat) : Int) - 1) (by omega), if_pos (by omega), if_pos (by omega), last_spec, Option.bind_some]
      have e : ((nw m : Nat) : Int) - 1 = ((nw m - 1 : Nat) : Int) := by omega
      rw [e, rowOf_rd _ _ _ (by omega)]
      congr 1
      refine beq_eq_false_iff_ne.2 (fun hz2 => hg (fun i b a => ?_))
      have hc := andNot_conv _ _ (hlt _ (by omega)) (mask_lt m) hz2
      exact good_high ⟨hm, hlt, fun _ => hc⟩ i a b
  · right
    refine ⟨?_, fun k hk => ?_⟩
    · unfold words_Valid.f
      rw [if_neg (by omega), if_neg (by omega), nwI m hm, if_neg (by omega)]
    · obtain ⟨k, rfl⟩ : ∃ q, k = q + 1 := ⟨k - 1, by omega⟩
      unfold vivariumref02_Valid.f
      rw [if_neg (by omega), if_neg (by omega), nwI m hm, show ((xs.length : Int) != ((nw m : Nat) : Int)) = true by simp; omega, vivariumref02_Valid.j0, if_pos rfl]
def bitsOf (n : Nat) (W : Nat → Nat) : List Bool := (List.range n).map (bitAt W)
theorem bitsOf_len (n : Nat) (W : Nat → Nat) : (bitsOf n W).length = n := by simp [bitsOf]
theorem bitsOf_get {n : Nat} (W : Nat → Nat) {i : Nat} (h : i < n) : (bitsOf n W)[i]? = some (bitAt W i) := by simp [bitsOf, h]
def bitsUpto (n x : Nat) (W : Nat → Nat) : List Bool := (List.range n).map fun i => if i < x then bitAt W i else false
theorem bitsUpto_zero (n : Nat) (W : Nat → Nat) : bitsUpto n 0 W = List.replicate n false := by
  apply List.ext_getElem?
  intro i
  by_cases h : i < n
  · simp [bitsUpto, h]
  · simp [bitsUpto, h]
theorem bitsUpto_all (n : Nat) (W : Nat → Nat) : bitsUpto n n W = bitsOf n W := List.map_congr_left (fun i hi => if_pos (List.mem_range.1 hi))
theorem bitsUpto_set (n x : Nat) (W : Nat → Nat) (h : x < n) : (bitsUpto n x W).set x (bitAt W x) = bitsUpto n (x + 1) W := by
  apply List.ext_getElem?
  intro i
  rw [List.getElem?_set]
  by_cases hi : i < n
  · by_cases e : x = i
    · subst e
      simp [bitsUpto, hi]
    · rw [if_neg e]
      have : (i < x) = (i < x + 1) := by simp; omega
      simp [bitsUpto, hi, this]
  · have e : x ≠ i := by omega
    rw [if_neg e]
    simp [bitsUpto, hi]
theorem refbits_loop {n : Nat} (W : Nat → Nat) (hn : n ≤ 65538) : ∀ (j k x : Nat) (xI : Int), xI = x → x + j = n → j < k →
    vivariumref02_Bits.l0 k (bitsUpto n x W) xI (n : Int) (rowOf (nw n) W) = some (bitsOf n W)
  | 0, k + 1, x, _, rfl, h, _ => by
    rw [vivariumref02_Bits.l0, if_neg (by omega), show x = n by omega, bitsUpto_all]
  | j + 1, k + 1, x, _, rfl, h, hk => by
    have hl := n_le n
    rw [vivariumref02_Bits.l0, if_pos (by omega), refbit_spec _ _ W (nw_le hn) x (by omega), Option.bind_some, if_pos (by omega), if_pos (by simp [bitsUpto]; omega), Int.toNat_natCast, bitsUpto_set n x W (by omega), w64 ((x : Int) + 1) (by omega)]
    exact refbits_loop W hn j k (x + 1) _ (by omega) (by omega) (by omega)
theorem refbits_spec (n : Nat) (W : Nat → Nat) (hn : n ≤ 65538) (k : Nat) (hk : 70000 < k) : vivariumref02_Bits.f k (n : Int) (rowOf (nw n) W) = some (bitsOf n W) := by
  unfold vivariumref02_Bits.f
  rw [if_pos (by omega), if_pos (by omega), Int.toNat_natCast, ← bitsUpto_zero n W]
  exact refbits_loop W hn n k 0 _ rfl (by omega) (by omega)
theorem add_bit (x b : Nat) (h : x < 2 ^ b) : x + 2 ^ b = x ||| 2 ^ b := by
  have := Nat.two_pow_add_eq_or_of_lt h 1
  rw [Nat.mul_one] at this
  rw [Nat.add_comm, this, Nat.or_comm]
theorem bitAt_setBit (W : Nat → Nat) (i q : Nat) : bitAt (setBit W i) q = (bitAt W q || decide (q = i)) := by
  unfold bitAt setBit
  by_cases e : q / 64 = i / 64
  · rw [if_pos e, Nat.testBit_or, Nat.testBit_two_pow, e]
    congr 1
    exact decide_eq_decide.2 ⟨fun h => by omega, fun h => by rw [h]⟩
  · rw [if_neg e]
    have : ¬ q = i := fun h => e (by rw [h])
    simp [this]
theorem setBit_lt {W : Nat → Nat} {m i : Nat} (h : ∀ t, t < m → W t < 18446744073709551616) : ∀ t, t < m → setBit W i t < 18446744073709551616 := by
  intro t ht
  unfold setBit
  split
  · rename_i e; subst e; exact bits_or_n _ _ (h _ ht) (pow_lt64 _ (Nat.mod_lt _ (by decide)))
  · exact h t ht
theorem low_word {W : Nat → Nat} {i : Nat} (hz : ∀ q, i ≤ q → bitAt W q = false) (hlt : W (i / 64) < 18446744073709551616) : W (i / 64) < 2 ^ (i % 64) := by
  refine Nat.lt_pow_two_of_testBit _ (fun b hb => ?_)
  by_cases hb64 : b < 64
  · have := hz (64 * (i / 64) + b) (by omega)
    unfold bitAt at this
    rwa [show (64 * (i / 64) + b) / 64 = i / 64 by omega, show (64 * (i / 64) + b) % 64 = b by omega] at this
  · exact high _ _ hlt hb64
theorem row_loop {n : Nat} {l : List Bool} (hl : l.length = n) (hn : n ≤ 65538) :
    ∀ (j k i : Nat) (iI : Int) (W : Nat → Nat), iI = (i : Int) → j < k → i + j = n → (∀ t, W t < 18446744073709551616) → (∀ q, i ≤ q → bitAt W q = false) → (∀ q, q < i → bitAt W q = l.getD q false) →
    ∃ W', (∀ t, W' t < 18446744073709551616) ∧ (∀ q, n ≤ q → bitAt W' q = false) ∧ (∀ q, q < n → bitAt W' q = l.getD q false) ∧ vivariumref02_Row.l0 k l iI (n : Int) (rowOf (nw n) W) = some ((n : Int), rowOf (nw n) W')
  | 0, k + 1, i, _, W, rfl, _, h, h1, h2, h3 => ⟨W, h1, fun q hq => h2 q (by omega), fun q hq => h3 q (by omega), by rw [vivariumref02_Row.l0, if_neg (by omega)]⟩
  | j + 1, k + 1, i, _, W, rfl, hk, h, h1, h2, h3 => by
    have hi : i / 64 < nw n := by unfold nw; omega
    have hm := nw_le hn
    have e1 : wrap64 ((i : Int) + 1) = ((i + 1 : Nat) : Int) := by rw [w64 _ (by omega)]; omega
    have hrd : rdOf false l (i : Int) = l.getD i false := by simp [rdOf]
    rw [vivariumref02_Row.l0, if_pos (by omega), if_pos (by omega), hrd]
    have hb64 : i % 64 < 64 := Nat.mod_lt _ (by decide)
    by_cases hb : l.getD i false = true
    · have hlow := low_word h2 (h1 (i / 64))
      have hor : W (i / 64) + 2 ^ (i % 64) = W (i / 64) ||| 2 ^ (i % 64) := add_bit _ _ hlow
      have hsum : W (i / 64) + 2 ^ (i % 64) < 18446744073709551616 := by rw [hor]; exact bits_or_n _ _ (h1 _) (pow_lt64 _ hb64)
      rw [if_pos hb, tdiv64, tmod64, w64 ((i / 64 : Nat) : Int) (by omega), if_pos (by omega), rowOf_len, if_pos (by omega), wrapU_small (i % 64) (by omega), if_pos (by omega), rowOf_rd _ _ _ hi,
        show (1 : Int) = ((1 : Nat) : Int) from rfl, shl_bit 1 (i % 64) (by decide) hb64, Nat.one_mul,
        show ((W (i / 64) : Nat) : Int) + ((2 ^ (i % 64) : Nat) : Int) = ((W (i / 64) + 2 ^ (i % 64) : Nat) : Int) by omega, wrapU_small _ hsum, hor, rowOf_set]
      rw [show (i : Int) + ((1 : Nat) : Int) = (i : Int) + 1 from rfl, e1]
      refine row_loop hl hn j k (i + 1) _ (setBit W i) rfl (by omega) (by omega) (fun t => ?_) (fun q hq => ?_) (fun q hq => ?_)
      · exact setBit_lt (m := t + 1) (fun t _ => h1 t) t (by omega)
      · rw [bitAt_setBit, h2 q (by omega)]; simp; omega
      · rw [bitAt_setBit]
        by_cases e : q = i
        · subst e; rw [hb]; simp
        · rw [h3 q (by omega)]; simp [e]
    · rw [if_neg hb, e1]
      refine row_loop hl hn j k (i + 1) _ W rfl (by omega) (by omega) h1 (fun q hq => h2 q (by omega)) (fun q hq => ?_)
      by_cases e : q = i
      · subst e; rw [h2 q (Nat.le_refl _)]; simpa using (Bool.eq_false_iff.2 hb).symm
      · exact h3 q (by omega)
theorem row_spec {l : List Bool} (hl : l.length ≤ 65538) (k : Nat) (hk : 70000 < k) : ∃ W, Rowp.Good l.length W ∧ (∀ i, i < l.length → bitAt W i = l.getD i false) ∧ vivariumref02_Row.f k l = some ((l.length : Int), rowOf (nw l.length) W) := by
  obtain ⟨W, h1, h2, h3, h4⟩ := row_loop (l := l) rfl hl l.length k 0 0 (fun _ => 0) rfl (by omega) (by omega) (fun _ => by decide) (fun q _ => by simp [bitAt]) (fun q hq => by omega)
  refine ⟨W, good_of_bits hl (fun t _ => h1 t) (fun i hi _ => h2 i hi), h3, ?_⟩
  unfold vivariumref02_Row.f
  have hm := nw_le hl
  rw [nwI _ hl, if_pos (by omega), if_pos (by omega), Int.toNat_natCast]
  rw [rowOf_zero] at h4
  exact h4
def U64 (xs : List Int) : Prop := ∀ v ∈ xs, 0 ≤ v ∧ v < 18446744073709551616
theorem u64_wiped (xs : List Int) : U64 (xs.map fun v => Go.bits .xor .u64 v 6148914691236517205) := by
  intro v hv
  obtain ⟨q, _, rfl⟩ := List.mem_map.1 hv
  have := bits_within .xor .u64 q 6148914691236517205
  simp [IntKind.min, IntKind.max, IntKind.bits, IntKind.signed] at this
  omega
end Go.Proofs.YtlghmadoogblcaaDoor.RefPlain
end
section
namespace Go.Proofs.YtlghmadoogblcaaDoor.MovePlain
open Go Go.RowKit Go.Proofs.YtlghmadoogblcaaDoor.PW Go.Proofs.YtlghmadoogblcaaDoorW.PrintWords Go.Proofs.YtlghmadoogblcaaDoorW.PrintLast Go.Proofs.YtlghmadoogblcaaDoorW.PrintMore Go.Proofs.YtlghmadoogblcaaDoor.Bits Go.Proofs.YtlghmadoogblcaaDoor.Rowp Go.Proofs.YtlghmadoogblcaaDoor.RefPlain
set_option maxRecDepth 100000
set_option linter.unusedVariables false
def car (W : Nat → Nat) (c i : Nat) : Nat := if i = 0 then c else W (i - 1) / 9223372036854775808
def upW (W : Nat → Nat) (c t : Nat) : Nat := (W t * 2) % 18446744073709551616 ||| car W c t
def stU (W : Nat → Nat) (c i t : Nat) : Nat := if t < i then upW W c t else W t
def upF (n : Nat) (W : Nat → Nat) (c t : Nat) : Nat := if t = nw n - 1 then upW W c t &&& mask n else upW W c t
theorem car_lt {n : Nat} {W : Nat → Nat} (g : Rowp.Good n W) (c : Nat) (hc : c < 2) (i : Nat) (hi : i ≤ nw n) : car W c i < 2 := by
  unfold car
  split
  · exact hc
  · have := g.lt (i - 1) (by omega)
    omega
theorem upW_lt {n : Nat} {W : Nat → Nat} (g : Rowp.Good n W) (c : Nat) (hc : c < 2) (t : Nat) (ht : t < nw n) : upW W c t < 18446744073709551616 := by
  have := car_lt g c hc t (by omega)
  exact bits_or_n _ _ (Nat.mod_lt _ (by decide)) (by omega)
theorem up_loop {n : Nat} {W : Nat → Nat} (g : Rowp.Good n W) (h0 : 0 < n) (c : Nat) (hc : c < 2) (out : Bool) : ∀ (j k i : Nat) (iI : Int), iI = i → j < k → i + j = nw n →
    words_Up.l0 k out ((car W c i : Nat) : Int) ((nw n : Nat) : Int) iI (n : Int) (rowOf (nw n) (stU W c i)) = some ((n : Int), rowOf (nw n) (upF n W c), out, 0)
  | 0, k + 1, i, _, rfl, _, h => by
    have hm := nw_le g.le
    have hp : 0 < nw n := by unfold nw; omega
    rw [words_Up.l0, if_neg (by omega), rowOf_len, w64 (((nw n : Nat) : Int) - 1) (by omega), if_pos (by omega), if_pos (by omega), last_spec, Option.bind_some]
    have e : ((nw n : Nat) : Int) - 1 = ((nw n - 1 : Nat) : Int) := by omega
    rw [e, rowOf_rd _ _ _ (by omega)]
    have e1 : stU W c i (nw n - 1) = upW W c (nw n - 1) := if_pos (by omega)
    rw [e1, bits_and_u64_nat _ _ (upW_lt g c hc _ (by omega)) (mask_lt n), rowOf_set]
    refine congrArg (fun q => some ((n : Int), q, out, 0)) (rowOf_congr (fun t ht => ?_))
    unfold upF stU
    rw [if_pos (show t < i by omega)]
    by_cases e : t = nw n - 1
    · rw [if_pos e, if_pos e, e]
    · rw [if_neg e, if_neg e]
  | j + 1, k + 1, i, _, rfl, hk, h => by
    have hm := nw_le g.le
    have hw := g.lt i (by omega)
    have e1 : wrap64 ((i : Int) + 1) = ((i + 1 : Nat) : Int) := by rw [w64 _ (by omega)]; omega
    rw [words_Up.l0, if_pos (by omega), if_pos (by omega), rowOf_len, if_pos (by omega), Option.bind_some, rowOf_rd _ _ _ (by omega)]
    have e2 : stU W c i i = W i := if_neg (by omega)
    have e3 : IntKind.u64.wrap ((W i : Int) * 2) = ((W i * 2 % 18446744073709551616 : Nat) : Int) := by
      simp [IntKind.wrap, IntKind.signed, IntKind.bits]
    have e4 : (W i : Int) / 9223372036854775808 = ((car W c (i + 1) : Nat) : Int) := by
      unfold car
      rw [if_neg (by omega), Nat.add_sub_cancel]
      omega
    rw [e2, e3, e4, rowOf_set, rowOf_rd _ _ _ (by omega), if_pos rfl, bits_or_u64_nat _ _ (Nat.mod_lt _ (by decide)) (by have := car_lt g c hc i (by omega); omega), rowOf_set, e1]
    have e5 : rowOf (nw n) (fun t => if t = i then W i * 2 % 18446744073709551616 ||| car W c i else if t = i then W i * 2 % 18446744073709551616 else stU W c i t) = rowOf (nw n) (stU W c (i + 1)) := by
      refine rowOf_congr (fun t ht => ?_)
      unfold stU
      by_cases e : t = i
      · subst e
        rw [if_pos rfl, if_pos (by omega)]
        rfl
      · rw [if_neg e, if_neg e]
        by_cases e6 : t < i
        · rw [if_pos e6, if_pos (by omega)]
        · rw [if_neg e6, if_neg (by omega)]
    rw [e5]
    exact up_loop g h0 c hc out j k (i + 1) _ rfl (by omega) (by omega)
theorem car_bit {n : Nat} {W : Nat → Nat} (g : Rowp.Good n W) (c : Nat) (hc : c < 2) (t b : Nat) (ht : t < nw n) : (car W c t).testBit b = (decide (b = 0) && if t = 0 then c == 1 else (W (t - 1)).testBit 63) := by
  have h2 := car_lt g c hc t (by omega)
  by_cases hb : b = 0
  · subst hb
    rw [decide_eq_true rfl, Bool.true_and]
    unfold car
    split
    · rcases (show c = 0 ∨ c = 1 by omega) with rfl | rfl <;> rfl
    · have e : (W (t - 1) / 2 ^ 63).testBit 0 = (W (t - 1)).testBit (0 + 63) := Nat.testBit_div_two_pow _ _
      exact e
  · rw [decide_eq_false hb, Bool.false_and]
    refine Nat.testBit_lt_two_pow (Nat.lt_of_lt_of_le h2 ?_)
    exact Nat.pow_le_pow_right (n := 2) (i := 1) (by decide) (by omega)
theorem upW_bit {n : Nat} {W : Nat → Nat} (g : Rowp.Good n W) (c : Nat) (hc : c < 2) (i : Nat) (hi : i < 64 * nw n) : (upW W c (i / 64)).testBit (i % 64) = if i = 0 then c == 1 else bitAt W (i - 1) := by
  have hb : i % 64 < 64 := Nat.mod_lt _ (by decide)
  unfold upW
  rw [Nat.testBit_or, car_bit g c hc _ _ (by omega), show (18446744073709551616 : Nat) = 2 ^ 64 from rfl, Nat.testBit_mod_two_pow, decide_eq_true hb, Bool.true_and, show W (i / 64) * 2 = W (i / 64) * 2 ^ 1 from rfl, Nat.testBit_mul_two_pow]
  by_cases h0 : i % 64 = 0
  · rw [h0, decide_eq_true rfl, Bool.true_and, show decide ((0 : Nat) ≥ 1) = false from rfl, Bool.false_and, Bool.false_or]
    by_cases h1 : i = 0
    · subst h1; rfl
    · rw [if_neg h1, if_neg (by omega)]
      unfold bitAt
      rw [show (i - 1) / 64 = i / 64 - 1 by omega, show (i - 1) % 64 = 63 by omega]
  · rw [decide_eq_false h0, Bool.false_and, Bool.or_false, decide_eq_true (show i % 64 ≥ 1 by omega), Bool.true_and, if_neg (by omega)]
    unfold bitAt
    rw [show (i - 1) / 64 = i / 64 by omega, show (i - 1) % 64 = i % 64 - 1 by omega]
theorem upF_bit {n : Nat} {W : Nat → Nat} (g : Rowp.Good n W) (c : Nat) (hc : c < 2) (i : Nat) (hi : i < 64 * nw n) : bitAt (upF n W c) i = (decide (i < n) && if i = 0 then c == 1 else bitAt W (i - 1)) := by
  have hu := upW_bit g c hc i hi
  have hb : i % 64 < 64 := Nat.mod_lt _ (by decide)
  unfold bitAt upF
  by_cases e : i / 64 = nw n - 1
  · rw [if_pos e, Nat.testBit_and, hu, Bool.and_comm, mask_bit]
    unfold bitAt
    congr 1
    by_cases hz : n % 64 = 0
    · rw [if_pos hz]
      refine decide_eq_decide.2 ⟨fun _ => ?_, fun _ => hb⟩
      unfold nw at hi; omega
    · rw [if_neg hz]
      refine decide_eq_decide.2 ⟨fun h => ?_, fun h => ?_⟩ <;> · unfold nw at *; omega
  · rw [if_neg e, hu, decide_eq_true (show i < n by unfold nw at *; omega), Bool.true_and]
    rfl
theorem up_good {n : Nat} {W : Nat → Nat} (g : Rowp.Good n W) (c : Nat) (hc : c < 2) : Rowp.Good n (upF n W c) := by
  refine good_of_bits g.le (fun t ht => ?_) (fun i h1 h2 => ?_)
  · unfold upF
    split
    · exact Nat.lt_of_le_of_lt Nat.and_le_left (upW_lt g c hc t ht)
    · exact upW_lt g c hc t ht
  · rw [upF_bit g c hc i h2, decide_eq_false (by omega), Bool.false_and]
def topB (n : Nat) (W : Nat → Nat) (inn : Bool) : Bool := if n = 0 then inn else bitAt W (n - 1)
theorem up_spec {n : Nat} {W : Nat → Nat} (g : Rowp.Good n W) (inn : Bool) (k : Nat) (hk : 1030 < k) :
    ∃ W', Rowp.Good n W' ∧ (∀ i, i < n → bitAt W' i = if i = 0 then inn else bitAt W (i - 1)) ∧ words_Up.f k (n : Int) (rowOf (nw n) W) inn = some ((n : Int), rowOf (nw n) W', topB n W inn, 0) := by
  by_cases h0 : n = 0
  · subst h0
    refine ⟨W, g, fun i hi => by omega, ?_⟩
    unfold words_Up.f
    rw [valid_spec g, Option.bind_some, if_pos rfl, if_pos (show ((0 : Nat) : Int) = 0 from rfl), show words_blank.f 0 = some (((0 : Nat) : Int), List.replicate (nw 0) 0) from blank_spec 0 (by decide), Option.bind_some]
    rfl
  · have hle := g.le
    have hm := nw_le hle
    have hn1 : n - 1 < n := by omega
    have h1 := lt_nw hn1
    have e1 : (n : Int) - 1 = ((n - 1 : Nat) : Int) := by omega
    have hst : ∀ c, rowOf (nw n) W = rowOf (nw n) (stU W c 0) := fun c => rowOf_congr (fun t _ => by unfold stU; rw [if_neg (by omega)])
    have hmain : ∀ c : Nat, c < 2 → words_Up.j0 k (bitAt W (n - 1)) (c : Int) (n : Int) (rowOf (nw n) W) = some ((n : Int), rowOf (nw n) (upF n W c), bitAt W (n - 1), 0) := by
      intro c hc
      obtain ⟨k, rfl⟩ : ∃ q, k = q + 1 := ⟨k - 1, by omega⟩
      rw [words_Up.j0, rowOf_len, hst c]
      have h := up_loop g (by omega) c hc (bitAt W (n - 1)) (nw n) k 0 _ rfl (by omega) (by omega)
      rwa [show car W c 0 = c from if_pos rfl] at h
    have hf : words_Up.f k (n : Int) (rowOf (nw n) W) inn = some ((n : Int), rowOf (nw n) (upF n W inn.toNat), topB n W inn, 0) := by
      unfold words_Up.f
      rw [valid_spec g, Option.bind_some, if_pos rfl, if_neg (by omega), w64 ((n : Int) - 1) (by omega), e1, tdiv64, tmod64, w64 (((n - 1) / 64 : Nat) : Int) (by omega), if_pos (by omega), rowOf_len, if_pos (by omega), if_pos (by omega), clone_spec n hle _ (rowOf_len _ _), Option.bind_some,
        rowOf_rd _ _ _ h1, and_bit _ _ (g.lt _ h1) (by omega), bit_one]
      unfold topB
      rw [if_neg h0]
      cases inn
      · rw [if_neg (by decide)]
        exact hmain 0 (by decide)
      · rw [if_pos rfl]
        exact hmain 1 (by decide)
    have hc2 : inn.toNat < 2 := by cases inn <;> decide
    refine ⟨_, up_good g inn.toNat hc2, fun i hi => ?_, hf⟩
    rw [upF_bit g _ hc2 i (by have := n_le n; omega), decide_eq_true hi, Bool.true_and]
    cases inn <;> rfl
def dnW (m : Nat) (W : Nat → Nat) (t : Nat) : Nat := if t + 1 < m then W t / 2 ||| (W (t + 1) % 2 * 9223372036854775808) else W t / 2
def stD (m : Nat) (W : Nat → Nat) (i t : Nat) : Nat := if t < i then dnW m W t else W t
theorem dnW_lt {n : Nat} {W : Nat → Nat} (g : Rowp.Good n W) (t : Nat) (ht : t < nw n) : dnW (nw n) W t < 18446744073709551616 := by
  have := g.lt t ht
  unfold dnW
  split
  · exact bits_or_n _ _ (by omega) (by omega)
  · omega
def dnF (n : Nat) (W : Nat → Nat) (inn : Bool) : Nat → Nat := if inn then setBit (dnW (nw n) W) (n - 1) else dnW (nw n) W
theorem down_loop {n : Nat} {W : Nat → Nat} (g : Rowp.Good n W) (h0 : 0 < n) (inn out : Bool) : ∀ (j k i : Nat) (iI : Int), iI = i → j < k → i + j = nw n →
    words_Down.l0 k inn out ((nw n : Nat) : Int) iI (n : Int) (rowOf (nw n) (stD (nw n) W i)) = some ((n : Int), rowOf (nw n) (dnF n W inn), out, 0)
  | 0, k + 1, i, _, rfl, _, h => by
    have hm := nw_le g.le
    have hle := g.le
    have hn1 : n - 1 < n := by omega
    have h1 := lt_nw hn1
    have e1 : (n : Int) - 1 = ((n - 1 : Nat) : Int) := by omega
    have e2 : rowOf (nw n) (stD (nw n) W i) = rowOf (nw n) (dnW (nw n) W) := rowOf_congr (fun t ht => if_pos (by omega))
    rw [words_Down.l0, if_neg (by omega), e2]
    unfold dnF
    cases inn
    · rw [if_neg (by decide), if_neg (by decide)]
    · rw [if_pos rfl, if_pos rfl, w64 ((n : Int) - 1) (by omega), e1, tdiv64, tmod64, w64 (((n - 1) / 64 : Nat) : Int) (by omega), if_pos (by omega), rowOf_len, if_pos (by omega), if_pos (by omega), rowOf_rd _ _ _ h1,
        show (1 : Int) = ((1 : Nat) : Int) from rfl, shl_bit 1 ((n - 1) % 64) (by decide) (Nat.mod_lt _ (by decide)), Nat.one_mul, bits_or_u64_nat _ _ (dnW_lt g _ h1) (pow_lt64 _ (Nat.mod_lt _ (by decide))), rowOf_set]
      rfl
  | j + 1, k + 1, i, _, rfl, hk, h => by
    have hm := nw_le g.le
    have hw := g.lt i (by omega)
    have e1 : wrap64 ((i : Int) + 1) = ((i + 1 : Nat) : Int) := by rw [w64 _ (by omega)]; omega
    rw [words_Down.l0, if_pos (by omega), if_pos (by omega), rowOf_len, if_pos (by omega), Option.bind_some, rowOf_rd _ _ _ (by omega), e1]
    have e2 : stD (nw n) W i i = W i := if_neg (by omega)
    have e3 : (W i : Int) / 2 = ((W i / 2 : Nat) : Int) := by omega
    rw [e2, e3, rowOf_set]
    by_cases hl : i + 1 < nw n
    · have e4 : IntKind.u64.wrap ((W (i + 1) : Int) * 9223372036854775808) = ((W (i + 1) % 2 * 9223372036854775808 : Nat) : Int) := by
        simp [IntKind.wrap, IntKind.signed, IntKind.bits]
        omega
      rw [if_pos (by omega), if_pos (by omega), rowOf_rd _ _ _ (by omega), if_pos rfl, rowOf_rd _ _ _ (by omega), if_neg (by omega), show stD (nw n) W i (i + 1) = W (i + 1) from if_neg (by omega), e4, bits_or_u64_nat _ _ (by omega) (by omega), rowOf_set]
      have e5 : rowOf (nw n) (fun t => if t = i then W i / 2 ||| W (i + 1) % 2 * 9223372036854775808 else if t = i then W i / 2 else stD (nw n) W i t) = rowOf (nw n) (stD (nw n) W (i + 1)) := by
        refine rowOf_congr (fun t ht => ?_)
        unfold stD
        by_cases e : t = i
        · subst e
          rw [if_pos rfl, if_pos (by omega)]
          unfold dnW
          rw [if_pos hl]
        · rw [if_neg e, if_neg e]
          by_cases e6 : t < i
          · rw [if_pos e6, if_pos (by omega)]
          · rw [if_neg e6, if_neg (by omega)]
      rw [e5]
      exact down_loop g h0 inn out j k (i + 1) _ rfl (by omega) (by omega)
    · rw [if_neg (by omega)]
      have e5 : rowOf (nw n) (fun t => if t = i then W i / 2 else stD (nw n) W i t) = rowOf (nw n) (stD (nw n) W (i + 1)) := by
        refine rowOf_congr (fun t ht => ?_)
        unfold stD
        by_cases e : t = i
        · subst e
          rw [if_pos rfl, if_pos (by omega)]
          unfold dnW
          rw [if_neg hl]
        · rw [if_neg e]
          by_cases e6 : t < i
          · rw [if_pos e6, if_pos (by omega)]
          · rw [if_neg e6, if_neg (by omega)]
      rw [e5]
      exact down_loop g h0 inn out j k (i + 1) _ rfl (by omega) (by omega)
theorem dnW_bit {n : Nat} {W : Nat → Nat} (g : Rowp.Good n W) (i : Nat) (hi : i < 64 * nw n) : bitAt (dnW (nw n) W) i = (decide (i + 1 < 64 * nw n) && bitAt W (i + 1)) := by
  have hb : i % 64 < 64 := Nat.mod_lt _ (by decide)
  have hw := g.lt (i / 64) (by omega)
  have hd : (W (i / 64) / 2).testBit (i % 64) = (W (i / 64)).testBit (i % 64 + 1) := by rw [Nat.testBit_succ]
  have hh : i % 64 = 63 → (W (i / 64)).testBit (i % 64 + 1) = false := fun e => high _ _ hw (by omega)
  unfold bitAt dnW
  split
  · rename_i h
    rw [Nat.testBit_or, hd, show (9223372036854775808 : Nat) = 2 ^ 63 from rfl, Nat.testBit_mul_two_pow, decide_eq_true (show i + 1 < 64 * nw n by omega), Bool.true_and]
    by_cases e : i % 64 = 63
    · rw [hh e, Bool.false_or, decide_eq_true (show i % 64 ≥ 63 by omega), Bool.true_and, show (i + 1) / 64 = i / 64 + 1 by omega, show (i + 1) % 64 = 0 by omega, show i % 64 - 63 = 0 by omega]
      simp [Nat.testBit_zero]
    · rw [decide_eq_false (show ¬ i % 64 ≥ 63 by omega), Bool.false_and, Bool.or_false, show (i + 1) / 64 = i / 64 by omega, show (i + 1) % 64 = i % 64 + 1 by omega]
  · rename_i h
    rw [hd]
    by_cases e : i % 64 = 63
    · rw [hh e, decide_eq_false (by omega), Bool.false_and]
    · rw [decide_eq_true (show i + 1 < 64 * nw n by omega), Bool.true_and, show (i + 1) / 64 = i / 64 by omega, show (i + 1) % 64 = i % 64 + 1 by omega]
theorem dnF_bit {n : Nat} {W : Nat → Nat} (g : Rowp.Good n W) (h0 : 0 < n) (inn : Bool) (i : Nat) (hi : i < 64 * nw n) : bitAt (dnF n W inn) i = if i + 1 = n then inn else (decide (i + 1 < 64 * nw n) && bitAt W (i + 1)) := by
  have hd := dnW_bit g i hi
  have hz : i + 1 = n → (decide (i + 1 < 64 * nw n) && bitAt W (i + 1)) = false := by
    intro e
    by_cases h : i + 1 < 64 * nw n
    · rw [good_high g (i + 1) (by omega) h, Bool.and_false]
    · rw [decide_eq_false h, Bool.false_and]
  unfold dnF
  cases inn
  · rw [if_neg (by decide), hd]
    by_cases e : i + 1 = n
    · rw [if_pos e, hz e]
    · rw [if_neg e]
  · rw [if_pos rfl, bitAt_setBit, hd]
    by_cases e : i + 1 = n
    · rw [if_pos e, hz e, decide_eq_true (by omega)]; rfl
    · rw [if_neg e, decide_eq_false (show ¬ i = n - 1 by omega), Bool.or_false]
theorem dn_good {n : Nat} {W : Nat → Nat} (g : Rowp.Good n W) (h0 : 0 < n) (inn : Bool) : Rowp.Good n (dnF n W inn) := by
  refine good_of_bits g.le ?_ (fun i h1 h2 => ?_)
  · unfold dnF
    split
    · exact setBit_lt (fun t ht => dnW_lt g t ht)
    · exact fun t ht => dnW_lt g t ht
  · rw [dnF_bit g h0 inn i h2, if_neg (by omega)]
    by_cases h : i + 1 < 64 * nw n
    · rw [good_high g (i + 1) (by omega) h, Bool.and_false]
    · rw [decide_eq_false h, Bool.false_and]
def lowB (n : Nat) (W : Nat → Nat) (inn : Bool) : Bool := if n = 0 then inn else bitAt W 0
theorem down_spec {n : Nat} {W : Nat → Nat} (g : Rowp.Good n W) (inn : Bool) (k : Nat) (hk : 1030 < k) :
    ∃ W', Rowp.Good n W' ∧ (∀ i, i < n → bitAt W' i = if i + 1 = n then inn else bitAt W (i + 1)) ∧ words_Down.f k (n : Int) (rowOf (nw n) W) inn = some ((n : Int), rowOf (nw n) W', lowB n W inn, 0) := by
  by_cases h0 : n = 0
  · subst h0
    refine ⟨W, g, fun i hi => by omega, ?_⟩
    unfold words_Down.f
    rw [valid_spec g, Option.bind_some, if_pos rfl, if_pos (show ((0 : Nat) : Int) = 0 from rfl), show words_blank.f 0 = some (((0 : Nat) : Int), List.replicate (nw 0) 0) from blank_spec 0 (by decide), Option.bind_some]
    rfl
  · have hle := g.le
    have hm := nw_le hle
    have hp : 0 < nw n := by unfold nw; omega
    have hst : rowOf (nw n) W = rowOf (nw n) (stD (nw n) W 0) := rowOf_congr (fun t _ => by unfold stD; rw [if_neg (by omega)])
    refine ⟨_, dn_good g (by omega) inn, fun i hi => ?_, ?_⟩
    · have := n_le n
      rw [dnF_bit g (by omega) inn i (by omega)]
      split
      · rfl
      · rw [decide_eq_true (by omega), Bool.true_and]
    · unfold words_Down.f
      have e0 : rd (rowOf (nw n) W) 0 = (W 0 : Int) := rowOf_rd _ _ 0 hp
      have hb := and_bit (W 0) 0 (g.lt 0 hp) (by decide)
      rw [shr_nat _ 0 (by decide), Nat.pow_zero, Nat.div_one] at hb
      rw [valid_spec g, Option.bind_some, if_pos rfl, if_neg (by omega), rowOf_len, if_pos (by omega), clone_spec n hle _ (rowOf_len _ _), Option.bind_some, e0, hb, bit_one]
      show words_Down.l0 k inn _ ((rowOf (nw n) W).length : Int) 0 (n : Int) (rowOf (nw n) W) = _
      rw [rowOf_len, hst, down_loop g (by omega) inn _ (nw n) k 0 0 rfl (by omega) (by omega)]
      unfold lowB
      rw [if_neg h0]
      rfl
end Go.Proofs.YtlghmadoogblcaaDoor.MovePlain
end
