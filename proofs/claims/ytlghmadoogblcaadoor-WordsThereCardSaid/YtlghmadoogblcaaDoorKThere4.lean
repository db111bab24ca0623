/- WordsThere proved, the tied card: for every list of bits and every bit, Down of Up with what came out is the row, Turned twice is the row, and Turned of Up is Down of Turned. The library's table of the places of the lowest ones reads as its own text lays it (tied). -/
import Derived.Test.YtlghmadoogblcaaDoorKThere3
section
namespace Go.Proofs.YtlghmadoogblcaaDoor.PW
open Go.RowKit Go.Proofs.YtlghmadoogblcaaDoorW.PrintWords Go.Proofs.YtlghmadoogblcaaDoorW.PrintLast Go.Proofs.YtlghmadoogblcaaDoorW.PrintMore
attribute [local go_sem] max2_int min2_int max_two min_two max_three min_three max_four min_four   -- for this text's walks alone
set_option linter.unusedVariables false
set_option linter.unusedSimpArgs false
def words_Down.l0 : Nat → Bool → Bool → Int → Int → Int → List Int → Option (Int × List Int × Bool × Int)
  | 0, _, _, _, _, _, _ => none
  | k + 1, x1, x7, x29, x30, x161000, x161001 => if x30 < x29 then (if 0 ≤ x30 then (if x30 < (x161001.length : Int) then ((some (x161001.set (x30 : Int).toNat ((rd x161001 x30) / 2) : List Int)).bind fun y162 => (if (wrap64 (x30 + 1)) < (x161001.length : Int) then (if 0 ≤ (wrap64 (x30 + 1)) then (words_Down.l0 k x1 x7 x29 (wrap64 (x30 + 1)) x161000 (y162.set (x30 : Int).toNat (Go.bits .or .u64 (rd y162 x30) (IntKind.u64.wrap ((rd y162 (wrap64 (x30 + 1))) * 9223372036854775808))))) else (none)) else (words_Down.l0 k x1 x7 x29 (wrap64 (x30 + 1)) x161000 y162))) else (none)) else (none)) else (if x1 = true then (if 0 ≤ (wrap64 (Int.tdiv (wrap64 (x161000 - 1)) 64)) then (if (wrap64 (Int.tdiv (wrap64 (x161000 - 1)) 64)) < (x161001.length : Int) then (if 0 ≤ (Int.tmod (wrap64 (x161000 - 1)) 64) then (some (x161000, (x161001.set ((wrap64 (Int.tdiv (wrap64 (x161000 - 1)) 64)) : Int).toNat (Go.bits .or .u64 (rd x161001 (wrap64 (Int.tdiv (wrap64 (x161000 - 1)) 64))) (shl .u64 1 (Int.tmod (wrap64 (x161000 - 1)) 64)))), x7, 0)) else (none)) else (none)) else (none)) else (some (x161000, x161001, x7, 0)))
def words_Down.f (k : Nat) (a0_0 : Int) (l0_1 : List Int) (a1 : Bool) : Option (Int × List Int × Bool × Int) := (words_Valid.f a0_0 l0_1).bind fun t150 => (if t150 = true then (if a0_0 = 0 then ((words_blank.f 0).bind fun bt151 => (some (bt151.1, bt151.2, a1, 0))) else (if 0 < (l0_1.length : Int) then ((words_clone.f a0_0 l0_1).bind fun bt156 => (words_Down.l0 k a1 ((Go.bits .and .u64 (rd l0_1 0) 1) == 1) (bt156.2.length : Int) 0 bt156.1 bt156.2)) else (none))) else (some (0, ([] : List Int), false, 20)))
def words_Down.T12 : Bool × List (List Nat × List Nat) := (true, [([], []), ([0], [0]), ([], []), ([1, 2], [1, 2]), ([3], [3]), ([], []), ([5], [5]), ([], []), ([7], [7]), ([6, 8], [6, 8]), ([9], [9]), ([10], [10]), ([4, 11], [4, 11]), ([1, 2, 0, 1, 2, 3, 4, 5, 6, 7, 8, 9, 10, 11, 12], [1, 2]), ([13, 12, 0, 1, 2, 3, 4, 5, 6, 7, 8, 9, 10, 11, 12], [12, 13])])
def words_Down.B12 : List Nat := [0, 1, 0, 7, 15, 0, 32, 0, 128, 480, 992, 2016, 4095, 8191, 16383]
theorem words_Down.tab12 : rtab .any (opsOf Tryd.f20 12) = words_Down.T12 := by kernel_rfl
theorem words_Down.bits12 : waitsOk words_Down.T12.2 words_Down.B12 = true := by kernel_rfl
def words_Down.T15 : Bool × List (List Nat × List Nat) := (true, [([], []), ([0], [0]), ([], []), ([2], [2]), ([3], [3]), ([4], [4]), ([1, 5], [1, 5]), ([6], [6]), ([], []), ([8], [8]), ([9], [9]), ([10], [10]), ([11], [11]), ([7, 12], [7, 12]), ([1, 5, 0, 1, 2, 3, 4, 5, 6, 7, 8, 9, 10, 11, 12, 13], [1, 5]), ([14, 13, 0, 1, 2, 3, 4, 5, 6, 7, 8, 9, 10, 11, 12, 13], [13, 14])])
def words_Down.B15 : List Nat := [0, 1, 0, 4, 12, 28, 63, 127, 0, 256, 768, 1792, 3840, 8191, 16383, 32767]
theorem words_Down.tab15 : rtab .any (opsOf Tryd.f20 15) = words_Down.T15 := by kernel_rfl
theorem words_Down.bits15 : waitsOk words_Down.T15.2 words_Down.B15 = true := by kernel_rfl
set_option maxHeartbeats 8000000 in
set_option maxRecDepth 100000 in
theorem words_Down.calls (k : Nat) (a0_0 : Int) (A0_1 : Option Addr) (c0_1 : Nat) (l0_1 : List Int) (a1 : Bool) (r1 : Int) (r2 : List Int) (r3 : Bool) (r4 : Int) (w : World) (hr0_1 : Kd.C (Kd.int .u64) w A0_1 l0_1.length l0_1) (hc0_1 : l0_1.length ≤ c0_1) (h : words_Down.f k a0_0 l0_1 a1 = some (r1, r2, r3, r4)) :
    Calls Tryd.prog 20 #[.agg #[.int .i64 a0_0, .slice A0_1 l0_1.length c0_1], .bool a1] w fun e w' => ∃ v1_ : Value, e = .returned (.tuple #[.agg #[.int .i64 r1, v1_], .bool r3, .int .i64 r4]) ∧ Kd.R (Kd.int .u64) 58 w' w.heap.size (fun _ => True) v1_ r2 ∧ Below w.heap.size w w' := by
  have hu24 := Tryd.underlying24
  have HR0_1 := Aside0.mk hr0_1
  have HC0_1 := Aside0.mk hc0_1
  clear hr0_1 hc0_1
  have HB := Aside0.mk (Below.refl w.heap.size w)
  have H : ((words_Valid.f a0_0 l0_1).bind fun t150 => (if t150 = true then (if a0_0 = 0 then ((words_blank.f 0).bind fun bt151 => (some (bt151.1, bt151.2, a1, 0))) else (if 0 < (l0_1.length : Int) then ((words_clone.f a0_0 l0_1).bind fun bt156 => (words_Down.l0 k a1 ((Go.bits .and .u64 (rd l0_1 0) 1) == 1) (bt156.2.length : Int) 0 bt156.1 bt156.2)) else (none))) else (some (0, ([] : List Int), false, 20)))) = some (r1, r2, r3, r4) := h
  clear h
  replace H := Option.bind_eq_some_iff.mp H
  obtain ⟨t150, A30, H⟩ := H
  replace H : (if t150 = true then (if a0_0 = 0 then ((words_blank.f 0).bind fun bt151 => (some (bt151.1, bt151.2, a1, 0))) else (if 0 < (l0_1.length : Int) then ((words_clone.f a0_0 l0_1).bind fun bt156 => (words_Down.l0 k a1 ((Go.bits .and .u64 (rd l0_1 0) 1) == 1) (bt156.2.length : Int) 0 bt156.1 bt156.2)) else (none))) else (some (0, ([] : List Int), false, 20))) = some (r1, r2, r3, r4) := H
  have A3 := Aside0.mk A30
  clear A30
  by_cases c4 : t150 = true
  · subst c4
    have H1 : (if a0_0 = 0 then ((words_blank.f 0).bind fun bt151 => (some (bt151.1, bt151.2, a1, 0))) else (if 0 < (l0_1.length : Int) then ((words_clone.f a0_0 l0_1).bind fun bt156 => (words_Down.l0 k a1 ((Go.bits .and .u64 (rd l0_1 0) 1) == 1) (bt156.2.length : Int) 0 bt156.1 bt156.2)) else (none))) = some (r1, r2, r3, r4) := by rw [if_pos rfl] at H; exact H
    clear H
    have H := H1
    clear H1
    by_cases c5 : a0_0 = 0
    · rw [if_pos c5] at H
      have c5b0 : (a0_0 == 0) = true := beq_iff_eq.mpr c5
      have c5b1 : (a0_0 != 0) = false := bne_eq_false_iff_eq.mpr c5
      clear c5
      replace H := Option.bind_eq_some_iff.mp H
      obtain ⟨⟨t151, t152⟩, A60, H⟩ := H
      replace H : (some (t151, t152, a1, 0)) = some (r1, r2, r3, r4) := H
      have A6 := Aside0.mk A60
      clear A60
      simp only [Option.some.injEq, Prod.mk.injEq] at H
      obtain ⟨rfl, rfl, rfl, rfl⟩ := H
      go_enter Tryd.func20, Tryd.ntmps20
      go_wp2_with (first | ((with_reducible refine gate_dst (N := 2) rfl ?_); refine box_event ?hg (N := 2) ?hd (cs := #[.int .i64 a0_0, .slice A0_1 l0_1.length c0_1]) (t := 24) ?hr ?_; (case hd => rfl); (case hg => rfl); (case hr => first | (go_simp; done) | (go_simp; rfl)); intro gb148 hg w7 hbox hb; have n0_ := Aside0.mk (below_step (by repeat (first | (with_reducible first | exact HB.out | apply below_alloc | apply pw_below_drewN | apply below_drew1) | exact HB.out)) hb); have n1_ := Aside0.mk (hbox); have n2_ := Aside0.mk ((by rw [hg]; exact (below_size (by repeat (first | (with_reducible first | exact HB.out | apply below_alloc | apply pw_below_drewN | apply below_drew1) | exact HB.out))) : w.heap.size ≤ gb148)); have n3_ := Aside0.mk ((by rw [hg]; exact (below_size (by repeat (first | (with_reducible first | exact HB.out | apply below_alloc | apply pw_below_drewN | apply below_drew1) | exact HB.out))) : w.heap.size ≤ gb148)); clear HB; have HB := n0_; have BK148 := n1_; have GW148 := n2_; have GE148 := n3_; clear n0_ n1_ n2_ n3_; clear hb hbox hg) | ((with_reducible refine gate_dst (N := 4) rfl ?_); refine box_event ?hg (N := 4) ?hd (cs := #[.int .i64 0, .slice none 0 0]) (t := 24) ?hr ?_; (case hd => rfl); (case hg => rfl); (case hr => first | (go_simp; done) | (go_simp; rfl)); intro gb149 hg w8 hbox hb; have n0_ := Aside0.mk (blk_below (g := gb148) (o := .cells #[.int .i64 a0_0, .slice A0_1 l0_1.length c0_1] 24 (0, 0)) (by (with_reducible repeat (first | refine blk_drewN ?_ _ | refine blk_drew ?_ | refine blk_alloc ?_ _)); exact BK148.out) hb); have n1_ := Aside0.mk (below_step (by repeat (first | (with_reducible first | exact HB.out | apply below_alloc | apply pw_below_drewN | apply below_drew1 | refine below_set ?_ GE148.out) | exact HB.out)) hb); have n2_ := Aside0.mk (hbox); have n3_ := Aside0.mk ((by rw [hg]; exact (below_size (by repeat (first | (with_reducible first | exact HB.out | apply below_alloc | apply pw_below_drewN | apply below_drew1 | refine below_set ?_ GE148.out) | exact HB.out))) : w.heap.size ≤ gb149)); have n4_ := Aside0.mk ((by rw [hg]; exact (below_size (by repeat (first | (with_reducible first | exact HB.out | apply below_alloc | apply pw_below_drewN | apply below_drew1 | refine below_set ?_ GE148.out) | exact HB.out))) : w.heap.size ≤ gb149)); have n5_ := Aside0.mk ((by rw [hg]; exact Nat.ne_of_lt (blk_lt (g := gb148) (o := .cells #[.int .i64 a0_0, .slice A0_1 l0_1.length c0_1] 24 (0, 0)) (by (with_reducible repeat (first | refine blk_drewN ?_ _ | refine blk_drew ?_ | refine blk_alloc ?_ _)); exact BK148.out)) : gb148 ≠ gb149)); have n6_ := Aside0.mk ((by rw [hg]; exact Nat.ne_of_gt (blk_lt (g := gb148) (o := .cells #[.int .i64 a0_0, .slice A0_1 l0_1.length c0_1] 24 (0, 0)) (by (with_reducible repeat (first | refine blk_drewN ?_ _ | refine blk_drew ?_ | refine blk_alloc ?_ _)); exact BK148.out)) : gb149 ≠ gb148)); clear BK148; clear HB; have BK148 := n0_; have HB := n1_; have BK149 := n2_; have GW149 := n3_; have GE149 := n4_; have NB148_149 := n5_; have NB149_148 := n6_; clear n0_ n1_ n2_ n3_ n4_ n5_ n6_; clear hb hbox hg; have hnb9 := NB148_149.out; have hnc9 := NB149_148.out; have hcz10_0 : w8.cell? ⟨gb148, 0, none⟩ = some (.int .i64 a0_0) := (blk_cell BK148.out 0).trans rfl; have hcz10_1 : w8.cell? ⟨gb148, 1, none⟩ = some (.slice A0_1 l0_1.length c0_1) := (blk_cell BK148.out 1).trans rfl; have hfz10_0 := blk_frozen BK148.out 0; have hfz10_1 := blk_frozen BK148.out 1) | ((with_reducible refine gate_callee (f := 29) rfl ?_); refine goesL_ (some 11) rfl rfl Tryd.func29 (by kernel_rfl) rfl #[.agg #[.int .i64 a0_0, .slice A0_1 l0_1.length c0_1]] rfl (by (try simp only [List.map_toArray, List.map_cons, List.map_nil]); first | done | rfl | (simp only [List.length_drop, List.length_take]; rfl)) ?_; (with_reducible refine (words_Valid.calls a0_0 _ _ l0_1 true _ ?side1 ?side2 A3.out).mono ?_); (case side1 => repeat (first | exact (Kd.C_below HR0_1.out HB.out) | (with_reducible refine Kd.C_alloc ?_ _) | (with_reducible refine Kd.C_drewN ?_ _) | (with_reducible refine Kd.C_drew ?_))); (case side2 => exact HC0_1.out); rintro e w11 ⟨rfl, hb⟩; refine ⟨_, rfl, ?_⟩; have n0_ := Aside0.mk (blk_below (g := gb148) (o := .cells #[.int .i64 a0_0, .slice A0_1 l0_1.length c0_1] 24 (0, 0)) (by (with_reducible repeat (first | refine blk_drewN ?_ _ | refine blk_drew ?_ | refine blk_alloc ?_ _)); exact BK148.out) hb); have n1_ := Aside0.mk (blk_below (g := gb149) (o := .cells #[.int .i64 0, .slice none 0 0] 24 (0, 0)) (by (with_reducible repeat (first | refine blk_drewN ?_ _ | refine blk_drew ?_ | refine blk_alloc ?_ _)); exact BK149.out) hb); have n2_ := Aside0.mk (below_step (by repeat (first | (with_reducible first | exact HB.out | apply below_alloc | apply pw_below_drewN | apply below_drew1 | refine below_set ?_ GE148.out | refine below_set ?_ GE149.out) | exact HB.out)) hb); clear BK148; clear BK149; clear HB; have BK148 := n0_; have BK149 := n1_; have HB := n2_; clear n0_ n1_ n2_; (try clear hb); (try clear hb2); (try clear hk); (try clear hi); have hcz12_0 : w11.cell? ⟨gb148, 0, none⟩ = some (.int .i64 a0_0) := (blk_cell BK148.out 0).trans rfl; have hcz12_1 : w11.cell? ⟨gb148, 1, none⟩ = some (.slice A0_1 l0_1.length c0_1) := (blk_cell BK148.out 1).trans rfl; have hfz12_0 := blk_frozen BK148.out 0; have hfz12_1 := blk_frozen BK148.out 1) | ((with_reducible refine gate_callee (f := 32) rfl ?_); refine goesL_ (some 17) rfl rfl Tryd.func32 (by kernel_rfl) rfl #[.int .i64 0] rfl (by (try simp only [List.map_toArray, List.map_cons, List.map_nil]); first | done | rfl | (simp only [List.length_drop, List.length_take]; rfl)) ?_; (with_reducible refine (words_blank.calls 0 t151 t152 _ A6.out).mono ?_); rintro e w13 ⟨v153, rfl, ho0, hb⟩; refine ⟨_, rfl, ?_⟩; have n0_ := Aside0.mk (Kd.R_lower ho0 (below_size (by repeat (first | (with_reducible first | exact HB.out | apply below_alloc | apply pw_below_drewN | apply below_drew1 | refine below_set ?_ GE148.out | refine below_set ?_ GE149.out) | exact HB.out)))); have n1_ := Aside0.mk (blk_below (g := gb148) (o := .cells #[.int .i64 a0_0, .slice A0_1 l0_1.length c0_1] 24 (0, 0)) (by (with_reducible repeat (first | refine blk_drewN ?_ _ | refine blk_drew ?_ | refine blk_alloc ?_ _)); exact BK148.out) hb); have n2_ := Aside0.mk (blk_below (g := gb149) (o := .cells #[.int .i64 0, .slice none 0 0] 24 (0, 0)) (by (with_reducible repeat (first | refine blk_drewN ?_ _ | refine blk_drew ?_ | refine blk_alloc ?_ _)); exact BK149.out) hb); have n3_ := Aside0.mk (below_step (by repeat (first | (with_reducible first | exact HB.out | apply below_alloc | apply pw_below_drewN | apply below_drew1 | refine below_set ?_ GE148.out | refine below_set ?_ GE149.out) | exact HB.out)) hb); clear BK148; clear BK149; clear HB; have HO154 := n0_; have BK148 := n1_; have BK149 := n2_; have HB := n3_; clear n0_ n1_ n2_ n3_; (try clear hb); (try clear hb2); (try clear hk); (try clear hi); (try clear ho0); have hcz14_0 : w13.cell? ⟨gb149, 0, none⟩ = some (.int .i64 0) := (blk_cell BK149.out 0).trans rfl; have hcz14_1 : w13.cell? ⟨gb149, 1, none⟩ = some (.slice none 0 0) := (blk_cell BK149.out 1).trans rfl; have hfz14_0 := blk_frozen BK149.out 0; have hfz14_1 := blk_frozen BK149.out 1; obtain ⟨Ao15, co15, eo15⟩ := Kd.R_slice HO154.out; subst eo15))
      refine bodyPost_ret (results_ctt rfl _ _ gb149 24 #[.int .i64 t151, .slice Ao15 t152.length co15] (0, 0) _ rfl (by (with_reducible repeat (first | refine blk_drewN ?_ _ | refine blk_drew ?_ | refine blk_alloc ?_ _)); refine blk_put (cs := #[.int .i64 t151, .slice none 0 0]) ?_ 1 _ rfl; (with_reducible repeat (first | refine blk_drewN ?_ _ | refine blk_drew ?_ | refine blk_alloc ?_ _)); refine blk_put (cs := #[.int .i64 0, .slice none 0 0]) ?_ 0 _ rfl; (with_reducible repeat (first | refine blk_drewN ?_ _ | refine blk_drew ?_ | refine blk_alloc ?_ _)); exact BK149.out) Tryd.underlying24 rfl (by kernel_rfl)) rfl ?_
      exact ⟨_, by first | rfl | (simp [errW_none, errW_some] <;> rfl) | (simp [*, errW_none, errW_some] <;> rfl), by (with_reducible repeat (first | apply Kd.R_alloc | apply Kd.R_drewN | apply Kd.R_drew)); exact Kd.R_mono (Kd.R_far (p := ⟨gb149, 1, none⟩) (Kd.R_far (p := ⟨gb149, 0, none⟩) (Kd.R_types HO154.out BK149.out (by decide)) (fun _ hk => hk.2) (.int .i64 t151)) (fun _ hk => hk.2) (.slice Ao15 t152.length co15)) (fun _ hk => trivial), by repeat (first | (with_reducible first | exact HB.out | apply below_alloc | apply pw_below_drewN | apply below_drew1 | refine below_set ?_ GE148.out | refine below_set ?_ GE149.out) | exact HB.out)⟩
    · rw [if_neg c5] at H
      have c5b0 : (a0_0 == 0) = false := beq_eq_false_iff_ne.mpr c5
      have c5b1 : (a0_0 != 0) = true := bne_iff_ne.mpr c5
      by_cases c16 : 0 < (l0_1.length : Int)
      · rw [if_pos c16] at H
        have c16b0 : decide (0 < (l0_1.length : Int)) = true := decide_eq_true c16
        have c16b1 : decide (0 < l0_1.length) = true := decide_eq_true (by omega)
        clear c16
        replace H := Option.bind_eq_some_iff.mp H
        obtain ⟨⟨t156, t157⟩, A170, H⟩ := H
        replace H : (words_Down.l0 k a1 ((Go.bits .and .u64 (rd l0_1 0) 1) == 1) (t157.length : Int) 0 t156 t157) = some (r1, r2, r3, r4) := H
        have A17 := Aside0.mk A170
        clear A170
        have H' := Aside0.mk H
        clear H
        go_enter Tryd.func20, Tryd.ntmps20
        go_wp2_with (first | ((with_reducible refine gate_dst (N := 2) rfl ?_); refine box_event ?hg (N := 2) ?hd (cs := #[.int .i64 a0_0, .slice A0_1 l0_1.length c0_1]) (t := 24) ?hr ?_; (case hd => rfl); (case hg => rfl); (case hr => first | (go_simp; done) | (go_simp; rfl)); intro gb148 hg w18 hbox hb; have n0_ := Aside0.mk (below_step (by repeat (first | (with_reducible first | exact HB.out | apply below_alloc | apply pw_below_drewN | apply below_drew1) | exact HB.out)) hb); have n1_ := Aside0.mk (hbox); have n2_ := Aside0.mk ((by rw [hg]; exact (below_size (by repeat (first | (with_reducible first | exact HB.out | apply below_alloc | apply pw_below_drewN | apply below_drew1) | exact HB.out))) : w.heap.size ≤ gb148)); have n3_ := Aside0.mk ((by rw [hg]; exact (below_size (by repeat (first | (with_reducible first | exact HB.out | apply below_alloc | apply pw_below_drewN | apply below_drew1) | exact HB.out))) : w.heap.size ≤ gb148)); clear HB; have HB := n0_; have BK148 := n1_; have GW148 := n2_; have GE148 := n3_; clear n0_ n1_ n2_ n3_; clear hb hbox hg) | ((with_reducible refine gate_dst (N := 4) rfl ?_); refine box_event ?hg (N := 4) ?hd (cs := #[.int .i64 0, .slice none 0 0]) (t := 24) ?hr ?_; (case hd => rfl); (case hg => rfl); (case hr => first | (go_simp; done) | (go_simp; rfl)); intro gb149 hg w19 hbox hb; have n0_ := Aside0.mk (blk_below (g := gb148) (o := .cells #[.int .i64 a0_0, .slice A0_1 l0_1.length c0_1] 24 (0, 0)) (by (with_reducible repeat (first | refine blk_drewN ?_ _ | refine blk_drew ?_ | refine blk_alloc ?_ _)); exact BK148.out) hb); have n1_ := Aside0.mk (below_step (by repeat (first | (with_reducible first | exact HB.out | apply below_alloc | apply pw_below_drewN | apply below_drew1 | refine below_set ?_ GE148.out) | exact HB.out)) hb); have n2_ := Aside0.mk (hbox); have n3_ := Aside0.mk ((by rw [hg]; exact (below_size (by repeat (first | (with_reducible first | exact HB.out | apply below_alloc | apply pw_below_drewN | apply below_drew1 | refine below_set ?_ GE148.out) | exact HB.out))) : w.heap.size ≤ gb149)); have n4_ := Aside0.mk ((by rw [hg]; exact (below_size (by repeat (first | (with_reducible first | exact HB.out | apply below_alloc | apply pw_below_drewN | apply below_drew1 | refine below_set ?_ GE148.out) | exact HB.out))) : w.heap.size ≤ gb149)); have n5_ := Aside0.mk ((by rw [hg]; exact Nat.ne_of_lt (blk_lt (g := gb148) (o := .cells #[.int .i64 a0_0, .slice A0_1 l0_1.length c0_1] 24 (0, 0)) (by (with_reducible repeat (first | refine blk_drewN ?_ _ | refine blk_drew ?_ | refine blk_alloc ?_ _)); exact BK148.out)) : gb148 ≠ gb149)); have n6_ := Aside0.mk ((by rw [hg]; exact Nat.ne_of_gt (blk_lt (g := gb148) (o := .cells #[.int .i64 a0_0, .slice A0_1 l0_1.length c0_1] 24 (0, 0)) (by (with_reducible repeat (first | refine blk_drewN ?_ _ | refine blk_drew ?_ | refine blk_alloc ?_ _)); exact BK148.out)) : gb149 ≠ gb148)); clear BK148; clear HB; have BK148 := n0_; have HB := n1_; have BK149 := n2_; have GW149 := n3_; have GE149 := n4_; have NB148_149 := n5_; have NB149_148 := n6_; clear n0_ n1_ n2_ n3_ n4_ n5_ n6_; clear hb hbox hg; have hnb20 := NB148_149.out; have hnc20 := NB149_148.out; have hcz21_0 : w19.cell? ⟨gb148, 0, none⟩ = some (.int .i64 a0_0) := (blk_cell BK148.out 0).trans rfl; have hcz21_1 : w19.cell? ⟨gb148, 1, none⟩ = some (.slice A0_1 l0_1.length c0_1) := (blk_cell BK148.out 1).trans rfl; have hfz21_0 := blk_frozen BK148.out 0; have hfz21_1 := blk_frozen BK148.out 1) | ((with_reducible refine gate_callee (f := 29) rfl ?_); refine goesL_ (some 11) rfl rfl Tryd.func29 (by kernel_rfl) rfl #[.agg #[.int .i64 a0_0, .slice A0_1 l0_1.length c0_1]] rfl (by (try simp only [List.map_toArray, List.map_cons, List.map_nil]); first | done | rfl | (simp only [List.length_drop, List.length_take]; rfl)) ?_; (with_reducible refine (words_Valid.calls a0_0 _ _ l0_1 true _ ?side1 ?side2 A3.out).mono ?_); (case side1 => repeat (first | exact (Kd.C_below HR0_1.out HB.out) | (with_reducible refine Kd.C_alloc ?_ _) | (with_reducible refine Kd.C_drewN ?_ _) | (with_reducible refine Kd.C_drew ?_))); (case side2 => exact HC0_1.out); rintro e w22 ⟨rfl, hb⟩; refine ⟨_, rfl, ?_⟩; have n0_ := Aside0.mk (blk_below (g := gb148) (o := .cells #[.int .i64 a0_0, .slice A0_1 l0_1.length c0_1] 24 (0, 0)) (by (with_reducible repeat (first | refine blk_drewN ?_ _ | refine blk_drew ?_ | refine blk_alloc ?_ _)); exact BK148.out) hb); have n1_ := Aside0.mk (blk_below (g := gb149) (o := .cells #[.int .i64 0, .slice none 0 0] 24 (0, 0)) (by (with_reducible repeat (first | refine blk_drewN ?_ _ | refine blk_drew ?_ | refine blk_alloc ?_ _)); exact BK149.out) hb); have n2_ := Aside0.mk (below_step (by repeat (first | (with_reducible first | exact HB.out | apply below_alloc | apply pw_below_drewN | apply below_drew1 | refine below_set ?_ GE148.out | refine below_set ?_ GE149.out) | exact HB.out)) hb); clear BK148; clear BK149; clear HB; have BK148 := n0_; have BK149 := n1_; have HB := n2_; clear n0_ n1_ n2_; (try clear hb); (try clear hb2); (try clear hk); (try clear hi); have hcz23_0 : w22.cell? ⟨gb148, 0, none⟩ = some (.int .i64 a0_0) := (blk_cell BK148.out 0).trans rfl; have hcz23_1 : w22.cell? ⟨gb148, 1, none⟩ = some (.slice A0_1 l0_1.length c0_1) := (blk_cell BK148.out 1).trans rfl; have hfz23_0 := blk_frozen BK148.out 0; have hfz23_1 := blk_frozen BK148.out 1; have p155 : 0 ≤ (0 : Int) := (by omega); have q155 : 0 < (l0_1.length : Int) := of_decide_eq_true (by first | (with_reducible assumption) | assumption); obtain ⟨ad155, e155, hx155_0⟩ := Kd.at_int HR0_1.out 0 p155 q155; cases e155; have qi155 : (0 < l0_1.length) = True := eq_true (by omega); (try rw [show ((0 : Int)).toNat = 0 from rfl] at hx155_0); (try rw [Addr.add_zero'] at hx155_0); replace hx155_0 := (HB.out.cell (World.block_lt_of_cell? w _ hx155_0)).trans hx155_0; replace p155 := eq_true p155; replace q155 := eq_true q155) | ((with_reducible refine gate_callee (f := 33) rfl ?_); refine goesL_ (some 26) rfl rfl Tryd.func33 (by kernel_rfl) rfl #[.agg #[.int .i64 a0_0, .slice (some ad155) l0_1.length c0_1]] rfl (by (try simp only [List.map_toArray, List.map_cons, List.map_nil]); first | done | rfl | (simp only [List.length_drop, List.length_take]; rfl)) ?_; (with_reducible refine (words_clone.calls a0_0 _ _ l0_1 t156 t157 _ ?side1 ?side2 A17.out).mono ?_); (case side1 => repeat (first | exact (Kd.C_below HR0_1.out HB.out) | (with_reducible refine Kd.C_alloc ?_ _) | (with_reducible refine Kd.C_drewN ?_ _) | (with_reducible refine Kd.C_drew ?_))); (case side2 => exact HC0_1.out); rintro e w24 ⟨v158, rfl, ho0, hb⟩; refine ⟨_, rfl, ?_⟩; have n0_ := Aside0.mk (Kd.R_lower ho0 (below_size (by repeat (first | (with_reducible first | exact HB.out | apply below_alloc | apply pw_below_drewN | apply below_drew1 | refine below_set ?_ GE148.out | refine below_set ?_ GE149.out) | exact HB.out)))); have n1_ := Aside0.mk (blk_below (g := gb148) (o := .cells #[.int .i64 a0_0, .slice (some ad155) l0_1.length c0_1] 24 (0, 0)) (by (with_reducible repeat (first | refine blk_drewN ?_ _ | refine blk_drew ?_ | refine blk_alloc ?_ _)); exact BK148.out) hb); have n2_ := Aside0.mk (blk_below (g := gb149) (o := .cells #[.int .i64 0, .slice none 0 0] 24 (0, 0)) (by (with_reducible repeat (first | refine blk_drewN ?_ _ | refine blk_drew ?_ | refine blk_alloc ?_ _)); exact BK149.out) hb); have n3_ := Aside0.mk (below_step (by repeat (first | (with_reducible first | exact HB.out | apply below_alloc | apply pw_below_drewN | apply below_drew1 | refine below_set ?_ GE148.out | refine below_set ?_ GE149.out) | exact HB.out)) hb); clear BK148; clear BK149; clear HB; have HO159 := n0_; have BK148 := n1_; have BK149 := n2_; have HB := n3_; clear n0_ n1_ n2_ n3_; (try clear hb); (try clear hb2); (try clear hk); (try clear hi); (try clear ho0)) | ((with_reducible refine gate_dst (N := 8) rfl ?_); refine box_event ?hg (N := 8) ?hd (cs := #[.int .i64 0, .slice none 0 0]) (t := 24) ?hr ?_; (case hd => rfl); (case hg => rfl); (case hr => first | (go_simp; done) | (go_simp; rfl)); intro gb160 hg w25 hbox hb; have n0_ := Aside0.mk (Kd.R_below (by (with_reducible repeat (first | apply Kd.R_alloc | apply Kd.R_drewN | apply Kd.R_drew)); exact HO159.out) hb); have n1_ := Aside0.mk (blk_below (g := gb148) (o := .cells #[.int .i64 a0_0, .slice (some ad155) l0_1.length c0_1] 24 (0, 0)) (by (with_reducible repeat (first | refine blk_drewN ?_ _ | refine blk_drew ?_ | refine blk_alloc ?_ _)); exact BK148.out) hb); have n2_ := Aside0.mk (blk_below (g := gb149) (o := .cells #[.int .i64 0, .slice none 0 0] 24 (0, 0)) (by (with_reducible repeat (first | refine blk_drewN ?_ _ | refine blk_drew ?_ | refine blk_alloc ?_ _)); exact BK149.out) hb); have n3_ := Aside0.mk (below_step (by repeat (first | (with_reducible first | exact HB.out | apply below_alloc | apply pw_below_drewN | apply below_drew1 | refine below_set ?_ GE148.out | refine below_set ?_ GE149.out) | exact HB.out)) hb); have n4_ := Aside0.mk (hbox); have n5_ := Aside0.mk ((by rw [hg]; exact (below_size (by repeat (first | (with_reducible first | exact HB.out | apply below_alloc | apply pw_below_drewN | apply below_drew1 | refine below_set ?_ GE148.out | refine below_set ?_ GE149.out) | exact HB.out))) : w.heap.size ≤ gb160)); have n6_ := Aside0.mk ((by rw [hg]; exact (below_size (by repeat (first | (with_reducible first | exact HB.out | apply below_alloc | apply pw_below_drewN | apply below_drew1 | refine below_set ?_ GE148.out | refine below_set ?_ GE149.out) | exact HB.out))) : w.heap.size ≤ gb160)); have n7_ := Aside0.mk ((by rw [hg]; exact Nat.ne_of_lt (blk_lt (g := gb148) (o := .cells #[.int .i64 a0_0, .slice (some ad155) l0_1.length c0_1] 24 (0, 0)) (by (with_reducible repeat (first | refine blk_drewN ?_ _ | refine blk_drew ?_ | refine blk_alloc ?_ _)); exact BK148.out)) : gb148 ≠ gb160)); have n8_ := Aside0.mk ((by rw [hg]; exact Nat.ne_of_gt (blk_lt (g := gb148) (o := .cells #[.int .i64 a0_0, .slice (some ad155) l0_1.length c0_1] 24 (0, 0)) (by (with_reducible repeat (first | refine blk_drewN ?_ _ | refine blk_drew ?_ | refine blk_alloc ?_ _)); exact BK148.out)) : gb160 ≠ gb148)); have n9_ := Aside0.mk ((by rw [hg]; exact Nat.ne_of_lt (blk_lt (g := gb149) (o := .cells #[.int .i64 0, .slice none 0 0] 24 (0, 0)) (by (with_reducible repeat (first | refine blk_drewN ?_ _ | refine blk_drew ?_ | refine blk_alloc ?_ _)); exact BK149.out)) : gb149 ≠ gb160)); have n10_ := Aside0.mk ((by rw [hg]; exact Nat.ne_of_gt (blk_lt (g := gb149) (o := .cells #[.int .i64 0, .slice none 0 0] 24 (0, 0)) (by (with_reducible repeat (first | refine blk_drewN ?_ _ | refine blk_drew ?_ | refine blk_alloc ?_ _)); exact BK149.out)) : gb160 ≠ gb149)); clear HO159; clear BK148; clear BK149; clear HB; have HO159 := n0_; have BK148 := n1_; have BK149 := n2_; have HB := n3_; have BK160 := n4_; have GW160 := n5_; have GE160 := n6_; have NB148_160 := n7_; have NB160_148 := n8_; have NB149_160 := n9_; have NB160_149 := n10_; clear n0_ n1_ n2_ n3_ n4_ n5_ n6_ n7_ n8_ n9_ n10_; clear hb hbox hg; have hnb26 := NB160_148.out; have hnc26 := NB148_160.out; have hnb27 := NB160_149.out; have hnc27 := NB149_160.out; have hcz28_0 : w25.cell? ⟨gb160, 0, none⟩ = some (.int .i64 0) := (blk_cell BK160.out 0).trans rfl; have hcz28_1 : w25.cell? ⟨gb160, 1, none⟩ = some (.slice none 0 0) := (blk_cell BK160.out 1).trans rfl; have hfz28_0 := blk_frozen BK160.out 0; have hfz28_1 := blk_frozen BK160.out 1; obtain ⟨Ao29, co29, eo29⟩ := Kd.R_slice HO159.out; subst eo29))
        go_loopg [30] k (fun kq v30 w' => ∃ (x30_1 : Int) (x161001_1 : List Int) (u161001 : Value), v30 = .int .i64 x30_1 ∧ Aside0 (words_Down.l0 kq a1 ((Go.bits .and .u64 (rd l0_1 0) 1) == 1) (t157.length : Int) x30_1 t156 x161001_1 = some (r1, r2, r3, r4)) ∧ Aside0 (kq ≤ k) ∧ Aside0 (Kd.R (Kd.int .u64) 58 w' w.heap.size (fun _ => True) u161001 x161001_1) ∧ Aside0 (w'.heap[gb148]? = some (.cells #[.int .i64 a0_0, (.slice (some ad155) l0_1.length c0_1)] 24 (0, 0))) ∧ Aside0 (w'.heap[gb149]? = some (.cells #[.int .i64 0, (.slice none 0 0)] 24 (0, 0))) ∧ Aside0 (w'.heap[gb160]? = some (.cells #[.int .i64 t156, u161001] 24 (0, 0))) ∧ Aside0 (Below w.heap.size w w'))
        case atStart => exact ⟨(0), (t157), (.slice Ao29 t157.length co29), (by first | rfl | (simp; done) | (simp [*]; done) | (simp [wrap64]; done)), H', ⟨Nat.le_refl _⟩, ⟨by (with_reducible repeat (first | apply Kd.R_alloc | apply Kd.R_drewN | apply Kd.R_drew)); exact Kd.R_mono (Kd.R_far (p := ⟨gb160, 1, none⟩) (Kd.R_far (p := ⟨gb160, 0, none⟩) (Kd.R_types HO159.out BK160.out (by decide)) (fun _ hk => hk.2) (.int .i64 t156)) (fun _ hk => hk.2) (.slice Ao29 t157.length co29)) (fun _ hk => trivial)⟩, ⟨by (with_reducible repeat (first | refine blk_drewN ?_ _ | refine blk_drew ?_ | refine blk_alloc ?_ _)); refine blk_far ?_ NB148_160.out _; (with_reducible repeat (first | refine blk_drewN ?_ _ | refine blk_drew ?_ | refine blk_alloc ?_ _)); refine blk_far ?_ NB148_160.out _; (with_reducible repeat (first | refine blk_drewN ?_ _ | refine blk_drew ?_ | refine blk_alloc ?_ _)); exact BK148.out⟩, ⟨by (with_reducible repeat (first | refine blk_drewN ?_ _ | refine blk_drew ?_ | refine blk_alloc ?_ _)); refine blk_far ?_ NB149_160.out _; (with_reducible repeat (first | refine blk_drewN ?_ _ | refine blk_drew ?_ | refine blk_alloc ?_ _)); refine blk_far ?_ NB149_160.out _; (with_reducible repeat (first | refine blk_drewN ?_ _ | refine blk_drew ?_ | refine blk_alloc ?_ _)); exact BK149.out⟩, ⟨by (with_reducible repeat (first | refine blk_drewN ?_ _ | refine blk_drew ?_ | refine blk_alloc ?_ _)); refine blk_put (cs := #[.int .i64 t156, .slice none 0 0]) ?_ 1 _ rfl; (with_reducible repeat (first | refine blk_drewN ?_ _ | refine blk_drew ?_ | refine blk_alloc ?_ _)); refine blk_put (cs := #[.int .i64 0, .slice none 0 0]) ?_ 0 _ rfl; (with_reducible repeat (first | refine blk_drewN ?_ _ | refine blk_drew ?_ | refine blk_alloc ?_ _)); exact BK160.out⟩, ⟨by repeat (first | (with_reducible first | exact HB.out | apply below_alloc | apply pw_below_drewN | apply below_drew1 | refine below_set ?_ GE148.out | refine below_set ?_ GE149.out | refine below_set ?_ GE160.out) | exact HB.out)⟩⟩
        case round =>
          clear H'
          try clear c1
          try clear p1
          try clear q1
          try clear hx1
          try clear qi1
          try clear c2
          try clear p2
          try clear c3
          try clear c4
          try clear c5
          try clear c5b0
          try clear c5b1
          try clear c9
          try clear p15
          try clear q15
          try clear hx15
          try clear qi15
          try clear c16
          try clear c16b0
          try clear c16b1
          try clear c20
          try clear c26
          try clear c27
          try clear c29
          try clear hcz10_0
          try clear hcz10_1
          try clear hcz12_0
          try clear hcz12_1
          try clear hcz14_0
          try clear hcz14_1
          try clear hcz21_0
          try clear hcz21_1
          try clear hcz23_0
          try clear hcz23_1
          try clear hcz28_0
          try clear hcz28_1
          try clear hfz10_0
          try clear hfz10_1
          try clear hfz12_0
          try clear hfz12_1
          try clear hfz14_0
          try clear hfz14_1
          try clear hfz21_0
          try clear hfz21_1
          try clear hfz23_0
          try clear hfz23_1
          try clear hfz28_0
          try clear hfz28_1
          try clear hx155_0
          try clear p155
          try clear q155
          obtain ⟨x30_1, x161001_1, u161001, rfl, HA, HK1, HO_161001, BK148, BK149, BK160, HB⟩ := hrel
          cases gk with
          | zero => exact absurd HA.out (by simp [words_Down.l0])
          | succ k1 =>
            have H := HA.out
            clear HA
            simp only [words_Down.l0] at H
            by_cases c30 : x30_1 < (t157.length : Int)
            · rw [if_pos c30] at H
              have c30b0 : decide (x30_1 < (t157.length : Int)) = true := decide_eq_true c30
              clear c30
              by_cases c31 : 0 ≤ x30_1
              · rw [if_pos c31] at H
                have c31b0 : decide (0 ≤ x30_1) = true := decide_eq_true c31
                clear c31
                by_cases c32 : x30_1 < (x161001_1.length : Int)
                · rw [if_pos c32] at H
                  have c32b0 : decide (x30_1 < (x161001_1.length : Int)) = true := decide_eq_true c32
                  clear c32
                  obtain ⟨y162, hy162⟩ : ∃ y_ : List Int, y_ = (x161001_1.set (x30_1 : Int).toNat ((rd x161001_1 x30_1) / 2)) := ⟨_, rfl⟩
                  replace H : (if (wrap64 (x30_1 + 1)) < (x161001_1.length : Int) then (if 0 ≤ (wrap64 (x30_1 + 1)) then (words_Down.l0 k1 a1 ((Go.bits .and .u64 (rd l0_1 0) 1) == 1) (t157.length : Int) (wrap64 (x30_1 + 1)) t156 (y162.set (x30_1 : Int).toNat (Go.bits .or .u64 (rd y162 x30_1) (IntKind.u64.wrap ((rd y162 (wrap64 (x30_1 + 1))) * 9223372036854775808))))) else (none)) else (words_Down.l0 k1 a1 ((Go.bits .and .u64 (rd l0_1 0) 1) == 1) (t157.length : Int) (wrap64 (x30_1 + 1)) t156 y162)) = some (r1, r2, r3, r4) := by first | (rw [hy162]; with_reducible exact H) | (have H2_ := (Option.bind_some _ _).symm.trans H; rw [hy162]; with_reducible exact H2_) | (have H2_ := (Option.bind_some _ _).symm.trans H; with_reducible exact H2_) | with_reducible exact H | (rw [hy162]; exact H) | exact H
                  have Ny162 := Aside0.mk hy162
                  clear hy162
                  by_cases c34 : (wrap64 (x30_1 + 1)) < (x161001_1.length : Int)
                  · rw [if_pos c34] at H
                    have c34b0 : decide ((wrap64 (x30_1 + 1)) < (x161001_1.length : Int)) = true := decide_eq_true c34
                    clear c34
                    obtain ⟨ji35, hji35⟩ : ∃ j_ : Int, (wrap64 (x30_1 + 1)) = j_ := ⟨_, rfl⟩
                    replace H : (if 0 ≤ (ji35) then (words_Down.l0 k1 a1 ((Go.bits .and .u64 (rd l0_1 0) 1) == 1) (t157.length : Int) ji35 t156 (y162.set (x30_1 : Int).toNat (Go.bits .or .u64 (rd y162 x30_1) (IntKind.u64.wrap ((rd y162 (ji35)) * 9223372036854775808))))) else (none)) = some (r1, r2, r3, r4) := by first | (rw [hji35] at H; exact H) | (simp only [hji35] at H ⊢; exact H)
                    (try rw [hji35] at c34b0)
                    have hji35w : (IntKind.i64.wrap (x30_1 + 1)) = ji35 := (i64_w _).trans hji35
                    by_cases c36 : 0 ≤ (ji35)
                    · rw [if_pos c36] at H
                      have c36b0 : decide (0 ≤ (ji35)) = true := decide_eq_true c36
                      clear c36
                      obtain ⟨y165, hy165⟩ : ∃ y_ : List Int, y_ = (y162.set (x30_1 : Int).toNat (Go.bits .or .u64 (rd y162 x30_1) (IntKind.u64.wrap ((rd y162 (ji35)) * 9223372036854775808)))) := ⟨_, rfl⟩
                      replace H : (words_Down.l0 k1 a1 ((Go.bits .and .u64 (rd l0_1 0) 1) == 1) (t157.length : Int) ji35 t156 y165) = some (r1, r2, r3, r4) := by first | (rw [hy165]; with_reducible exact H) | (have H2_ := (Option.bind_some _ _).symm.trans H; rw [hy165]; with_reducible exact H2_) | (have H2_ := (Option.bind_some _ _).symm.trans H; with_reducible exact H2_) | with_reducible exact H | (rw [hy165]; exact H) | exact H
                      have Ny165 := Aside0.mk hy165
                      clear hy165
                      have H' := Aside0.mk H
                      clear H
                      have hnb38 := NB160_148.out
                      have hnc38 := NB148_160.out
                      have hnb39 := NB160_149.out
                      have hnc39 := NB149_160.out
                      have hcz40_0 : wr.cell? ⟨gb160, 0, none⟩ = some (.int .i64 t156) := (blk_cell BK160.out 0).trans rfl
                      have hcz40_1 : wr.cell? ⟨gb160, 1, none⟩ = some (u161001) := (blk_cell BK160.out 1).trans rfl
                      have hfz40_0 := blk_frozen BK160.out 0
                      have hfz40_1 := blk_frozen BK160.out 1
                      obtain ⟨Ao41, co41, eo41⟩ := Kd.R_slice HO_161001.out
                      subst eo41
                      have p161 : 0 ≤ (x30_1 : Int) := of_decide_eq_true (by first | (with_reducible assumption) | assumption)
                      have q161 : x30_1 < (x161001_1.length : Int) := of_decide_eq_true (by first | (with_reducible assumption) | assumption)
                      obtain ⟨ad161, e161, hx161_0⟩ := Kd.at_int (Kd.R_reads' HO_161001.out).2.2 x30_1 p161 q161
                      cases e161
                      replace p161 := eq_true p161
                      replace q161 := eq_true q161
                      have p33 : 0 ≤ (x30_1 : Int) := of_decide_eq_true (by first | (with_reducible assumption) | assumption)
                      have q33 : (x30_1 : Int) < ((x161001_1.length : Int) : Int) := of_decide_eq_true (by first | (with_reducible assumption) | assumption)
                      obtain ⟨go33, co33, eo33, gb33, gl33, cl33, HG33⟩ := Kd.R_form HO_161001.out (by omega)
                      (first | cases eo33 | (injection eo33 with ea_ en_ ec_; (first | subst ea_ | (injection ea_ with ea_; subst ea_)); subst ec_; clear en_))
                      have GB33 := Aside0.mk gb33
                      have GG33 := Aside0.mk HG33
                      clear gb33 gl33 HG33
                      (first | simp only [add_plain] at hx161_0 | skip)
                      obtain ⟨hx33_0, hf33_0⟩ := Kd.R_celln 0 HO_161001.out (x30_1 : Int) p33 q33
                      replace p33 := eq_true p33
                      replace q33 := eq_true q33
                      have HP42 := Kd.R_putg HO_161001.out (x30_1 : Int) ((rd x161001_1 x30_1) / 2)
                      try go_wp2_with (first | ((with_reducible refine gate_store (t := 58) (p := 39) rfl ?_); refine store_event (t := 58) (p := 39) (v := ?vo_w43) (w1 := (wr.setCell ⟨go33, (x30_1 : Int).toNat, none⟩ (.int .u64 ((rd x161001_1 x30_1) / 2)))) ?hg ?ho ?hn ?hr ?_; (case ho => rfl); (case hg => rfl); (case hn => rfl); (case hr => first | (go_simp; done) | (go_simp; rfl)); intro w43 hw; have hg : wr.grownBy w43 (some go33) := (by rw [hw]; exact HP42.2); have hp_ : Kd.R (Kd.int .u64) 58 w43 w.heap.size (fun _ => True) (.slice (some ⟨go33, 0, none⟩) x161001_1.length co41) y162 := (by rw [hw, Ny162.out]; exact HP42.1); clear HP42; have n0_ := Aside0.mk (hp_); have n1_ := Aside0.mk (blk_grown (g := gb148) (o := .cells #[.int .i64 a0_0, .slice (some ad155) l0_1.length c0_1] 24 (0, 0)) (by (with_reducible repeat (first | refine blk_drewN ?_ _ | refine blk_drew ?_ | refine blk_alloc ?_ _)); exact BK148.out) hg (Kd.R_ne HO_161001.out BK148.out (by decide))); have n2_ := Aside0.mk (blk_grown (g := gb149) (o := .cells #[.int .i64 0, .slice none 0 0] 24 (0, 0)) (by (with_reducible repeat (first | refine blk_drewN ?_ _ | refine blk_drew ?_ | refine blk_alloc ?_ _)); exact BK149.out) hg (Kd.R_ne HO_161001.out BK149.out (by decide))); have n3_ := Aside0.mk (blk_grown (g := gb160) (o := .cells #[.int .i64 t156, .slice (some ⟨go33, 0, none⟩) x161001_1.length co41] 24 (0, 0)) (by (with_reducible repeat (first | refine blk_drewN ?_ _ | refine blk_drew ?_ | refine blk_alloc ?_ _)); exact BK160.out) hg (Kd.R_ne HO_161001.out BK160.out (by decide))); have n4_ := Aside0.mk ((by rw [hw]; exact below_set (HB.out) GB33.out : Below w.heap.size w w43)); clear HO_161001; clear BK148; clear BK149; clear BK160; clear HB; have HO_161001 := n0_; have BK148 := n1_; have BK149 := n2_; have BK160 := n3_; have HB := n4_; clear n0_ n1_ n2_ n3_ n4_; clear hg hw hp_; have hcz44_0 : w43.cell? ⟨gb160, 0, none⟩ = some (.int .i64 t156) := (blk_cell BK160.out 0).trans rfl; have hcz44_1 : w43.cell? ⟨gb160, 1, none⟩ = some (.slice (some ⟨go33, 0, none⟩) x161001_1.length co41) := (blk_cell BK160.out 1).trans rfl; have hfz44_0 := blk_frozen BK160.out 0; have hfz44_1 := blk_frozen BK160.out 1))
                      have n0_ := Aside0.mk (Kd.R_drew HO_161001.out)
                      have n1_ := Aside0.mk (blk_drew BK148.out)
                      have n2_ := Aside0.mk (blk_drew BK149.out)
                      have n3_ := Aside0.mk (blk_drew BK160.out)
                      have n4_ := Aside0.mk (below_drew1 HB.out)
                      clear HO_161001
                      clear BK148
                      clear BK149
                      clear BK160
                      clear HB
                      have HO_161001 := n0_
                      have BK148 := n1_
                      have BK149 := n2_
                      have BK160 := n3_
                      have HB := n4_
                      clear n0_ n1_ n2_ n3_ n4_
                      have p163 : 0 ≤ (x30_1 : Int) := of_decide_eq_true (by first | (with_reducible assumption) | assumption)
                      have q163 : x30_1 < (y162.length : Int) := (by have h_ : (x30_1 : Int) < ((x161001_1.length : Int) : Int) := of_decide_eq_true (by first | (with_reducible assumption) | assumption); first | (have e_ := (Kd.R_reads' HO_161001.out).1; omega) | simpa only [Ny162.out, List.length_set] using h_)
                      have ql163 : ((x30_1 : Int) < ((x161001_1.length : Int) : Int)) = True := eq_true (of_decide_eq_true (by first | (with_reducible assumption) | assumption))
                      obtain ⟨ad163, e163, hx163_0⟩ := Kd.at_int (Kd.R_reads' HO_161001.out).2.2 x30_1 p163 q163
                      obtain rfl : (⟨go33, 0, none⟩ : Addr) = ad163 := (by injection e163)
                      (first | simp only [add_plain] at hx163_0 | simp only [add_at] at hx163_0 | simp only [Addr.add, Nat.zero_add] at hx163_0 | skip)
                      replace p163 := eq_true p163
                      replace q163 := eq_true q163
                      have p164 : 0 ≤ ((ji35) : Int) := of_decide_eq_true (by first | (with_reducible assumption) | assumption)
                      have q164 : (ji35) < (y162.length : Int) := (by have h_ : ((ji35) : Int) < ((x161001_1.length : Int) : Int) := of_decide_eq_true (by first | (with_reducible assumption) | assumption); first | (have e_ := (Kd.R_reads' HO_161001.out).1; omega) | simpa only [Ny162.out, List.length_set] using h_)
                      have ql164 : (((ji35) : Int) < ((x161001_1.length : Int) : Int)) = True := eq_true (of_decide_eq_true (by first | (with_reducible assumption) | assumption))
                      obtain ⟨ad164, e164, hx164_0⟩ := Kd.at_int (Kd.R_reads' HO_161001.out).2.2 (ji35) p164 q164
                      obtain rfl : (⟨go33, 0, none⟩ : Addr) = ad164 := (by injection e164)
                      (first | simp only [add_plain] at hx164_0 | simp only [add_at] at hx164_0 | simp only [Addr.add, Nat.zero_add] at hx164_0 | skip)
                      replace p164 := eq_true p164
                      replace q164 := eq_true q164
                      have p37 : 0 ≤ (x30_1 : Int) := of_decide_eq_true (by first | (with_reducible assumption) | assumption)
                      have q37 : (x30_1 : Int) < ((x161001_1.length : Int) : Int) := of_decide_eq_true (by first | (with_reducible assumption) | assumption)
                      obtain ⟨hx37_0, hf37_0⟩ := Kd.R_celln 0 HO_161001.out (x30_1 : Int) p37 q37
                      replace p37 := eq_true p37
                      replace q37 := eq_true q37
                      have HP46 := Kd.R_putn HO_161001.out (x30_1 : Int) (Go.bits .or .u64 (rd y162 x30_1) (IntKind.u64.wrap ((rd y162 (ji35)) * 9223372036854775808)))
                      rw [← Ny165.out] at HP46
                      have HQ46 := Aside0.mk HP46
                      clear HP46
                      refine start_ (n := 15) (S := fun w' => w'.cell? ⟨gb160, 0, none⟩ = some (.int .i64 t156) ∧ w'.cell? ⟨gb160, 1, none⟩ = some (.slice (some ⟨go33, 0, none⟩) x161001_1.length co41) ∧ w'.cell? ⟨go33, (x30_1).toNat, none⟩ = some (.int .u64 (rd y162 x30_1)) ∧ w'.cell? ⟨go33, ((ji35)).toNat, none⟩ = some (.int .u64 (rd y162 (ji35)))) (ds := [14]) #[false, false, false, false, false, false, false, false, false, false, false, false, false, false, false] (by kernel_rfl) rfl rfl ⟨(blk_cell BK160.out 0).trans rfl, (blk_cell BK160.out 1).trans rfl, hx163_0, hx164_0⟩ (fun hHeld => ?_); refine with_tabW words_Down.tab12 words_Down.bits12 (fun HT_ HW_ => ?_)
                      generalize w43.drew = w45 at HO_161001 BK148 BK149 BK160 HB HQ46 hf37_0 hx163_0 hx164_0 hx37_0 hHeld ⊢
                      refine pure_ (i := 0) (N := some 46) (v := ?_) (a' := ?_) #[true, false, false, false, false, false, false, false, false, false, false, false, false, false, false] rfl rfl (any_of HT_.out (by kernel_rfl)) (fun _ _ _ h => h) (Or.inl ⟨by rfl, ?_⟩) ?_ ?_
                      rotate_left
                      · intro w'
                        go_simp
                        with_reducible rfl
                      rotate_left
                      · simp only [Act.put, List.setIfInBounds_toArray, List.set_cons_zero, List.set_cons_succ, i64_w, i32_w]
                        rfl
                      refine pure_ (i := 2) (N := some 48) (v := ?_) (a' := ?_) #[true, false, true, false, false, false, false, false, false, false, false, false, false, false, false] rfl rfl (any_of HT_.out (by kernel_rfl)) (fun _ _ _ h => h) (Or.inl ⟨by rfl, ?_⟩) ?_ ?_
                      rotate_left
                      · intro w'
                        go_simp
                        with_reducible rfl
                      rotate_left
                      · simp only [Act.put, List.setIfInBounds_toArray, List.set_cons_zero, List.set_cons_succ, i64_w, i32_w]
                        rfl
                      refine pure_ (i := 5) (N := some 51) (v := ?_) (a' := ?_) #[true, false, true, false, false, true, false, false, false, false, false, false, false, false, false] rfl rfl (any_of HT_.out (by kernel_rfl)) (fun _ _ _ h => h) (Or.inl ⟨by rfl, ?_⟩) ?_ ?_
                      rotate_left
                      · intro w'
                        go_simp
                        with_reducible rfl
                      rotate_left
                      · simp only [Act.put, List.setIfInBounds_toArray, List.set_cons_zero, List.set_cons_succ, i64_w, i32_w]
                        rfl
                      refine pure_ (i := 7) (N := some 53) (v := ?_) (a' := ?_) #[true, false, true, false, false, true, false, true, false, false, false, false, false, false, false] rfl rfl (any_of HT_.out (by kernel_rfl)) (fun _ _ _ h => h) (Or.inl ⟨by rfl, ?_⟩) ?_ ?_
                      rotate_left
                      · intro w'
                        go_simp
                        with_reducible rfl
                      rotate_left
                      · simp only [Act.put, List.setIfInBounds_toArray, List.set_cons_zero, List.set_cons_succ, i64_w, i32_w]
                        rfl
                      refine pure_ (i := 8) (N := some 54) (v := ?_) (a' := ?_) #[true, false, true, false, false, true, false, true, true, false, false, false, false, false, false] rfl rfl (any_of HT_.out (by kernel_rfl)) (fun _ _ _ h => h) (Or.inl ⟨by rfl, ?_⟩) ?_ ?_
                      rotate_left
                      · intro w'
                        go_simp
                        with_reducible rfl
                      rotate_left
                      · simp only [Act.put, List.setIfInBounds_toArray, List.set_cons_zero, List.set_cons_succ, i64_w, i32_w]
                        rfl
                      refine take_ (i := 1) (N := some 47) (v := ?_) (a' := ?_) #[true, true, true, false, false, true, false, true, true, false, false, false, false, false, false] rfl rfl (take_ofW HT_.out HW_.out (by kernel_rfl)) (fun _ _ _ h => h) (Or.inl ⟨by rfl, ?_⟩) hHeld ?_ ?_
                      rotate_left
                      · rintro w' ⟨s0, s1, s2, s3⟩
                        go_simp
                        with_reducible rfl
                      rotate_left
                      · simp only [Act.put, List.setIfInBounds_toArray, List.set_cons_zero, List.set_cons_succ, i64_w, i32_w]
                        rfl
                      refine pure_ (i := 3) (N := some 49) (v := ?_) (a' := ?_) #[true, true, true, true, false, true, false, true, true, false, false, false, false, false, false] rfl rfl (any_of HT_.out (by kernel_rfl)) (fun _ _ _ h => h) (Or.inl ⟨by rfl, ?_⟩) ?_ ?_
                      rotate_left
                      · intro w'
                        go_simp
                        with_reducible rfl
                      rotate_left
                      · simp only [Act.put, List.setIfInBounds_toArray, List.set_cons_zero, List.set_cons_succ, i64_w, i32_w]
                        rfl
                      refine take_ (i := 4) (N := some 50) (v := ?_) (a' := ?_) #[true, true, true, true, true, true, false, true, true, false, false, false, false, false, false] rfl rfl (take_ofW HT_.out HW_.out (by kernel_rfl)) (fun _ _ _ h => h) (Or.inl ⟨by rfl, ?_⟩) hHeld ?_ ?_
                      rotate_left
                      · rintro w' ⟨s0, s1, s2, s3⟩
                        go_simp
                        with_reducible rfl
                      rotate_left
                      · simp only [Act.put, List.setIfInBounds_toArray, List.set_cons_zero, List.set_cons_succ, i64_w, i32_w]
                        rfl
                      refine take_ (i := 6) (N := some 52) (v := ?_) (a' := ?_) #[true, true, true, true, true, true, true, true, true, false, false, false, false, false, false] rfl rfl (take_ofW HT_.out HW_.out (by kernel_rfl)) (fun _ _ _ h => h) (Or.inl ⟨by rfl, ?_⟩) hHeld ?_ ?_
                      rotate_left
                      · rintro w' ⟨s0, s1, s2, s3⟩
                        go_simp
                        with_reducible rfl
                      rotate_left
                      · simp only [Act.put, List.setIfInBounds_toArray, List.set_cons_zero, List.set_cons_succ, i64_w, i32_w]
                        rfl
                      refine pure_ (i := 9) (N := some 55) (v := ?_) (a' := ?_) #[true, true, true, true, true, true, true, true, true, true, false, false, false, false, false] rfl rfl (any_of HT_.out (by kernel_rfl)) (fun _ _ _ h => h) (Or.inl ⟨by rfl, ?_⟩) ?_ ?_
                      rotate_left
                      · intro w'
                        go_simp
                        with_reducible rfl
                      rotate_left
                      · simp only [Act.put, List.setIfInBounds_toArray, List.set_cons_zero, List.set_cons_succ, i64_w, i32_w]
                        rfl
                      refine take_ (i := 10) (N := some 56) (v := ?_) (a' := ?_) #[true, true, true, true, true, true, true, true, true, true, true, false, false, false, false] rfl rfl (take_ofW HT_.out HW_.out (by kernel_rfl)) (fun _ _ _ h => h) (Or.inl ⟨by rfl, ?_⟩) hHeld ?_ ?_
                      rotate_left
                      · rintro w' ⟨s0, s1, s2, s3⟩
                        go_simp
                        with_reducible rfl
                      rotate_left
                      · simp only [Act.put, List.setIfInBounds_toArray, List.set_cons_zero, List.set_cons_succ, i64_w, i32_w]
                        rfl
                      refine pure_ (i := 11) (N := some 57) (v := ?_) (a' := ?_) #[true, true, true, true, true, true, true, true, true, true, true, true, false, false, false] rfl rfl (any_of HT_.out (by kernel_rfl)) (fun _ _ _ h => h) (Or.inl ⟨by rfl, ?_⟩) ?_ ?_
                      rotate_left
                      · intro w'
                        go_simp
                        with_reducible rfl
                      rotate_left
                      · simp only [Act.put, List.setIfInBounds_toArray, List.set_cons_zero, List.set_cons_succ, i64_w, i32_w]
                        rfl
                      refine pure_ (i := 12) (N := some 58) (v := ?_) (a' := ?_) #[true, true, true, true, true, true, true, true, true, true, true, true, true, false, false] rfl rfl (any_of HT_.out (by kernel_rfl)) (fun _ _ _ h => h) (Or.inl ⟨by rfl, ?_⟩) ?_ ?_
                      rotate_left
                      · intro w'
                        go_simp
                        with_reducible rfl
                      rotate_left
                      · simp only [Act.put, List.setIfInBounds_toArray, List.set_cons_zero, List.set_cons_succ, i64_w, i32_w]
                        rfl
                      refine pure_ (i := 13) (N := some 59) (v := ?_) (a' := ?_) #[true, true, true, true, true, true, true, true, true, true, true, true, true, true, false] rfl rfl (any_of HT_.out (by kernel_rfl)) (fun _ _ _ h => h) (Or.inl ⟨by rfl, ?_⟩) ?_ ?_
                      rotate_left
                      · intro w'
                        go_simp
                        with_reducible rfl
                      rotate_left
                      · simp only [Act.put, List.setIfInBounds_toArray, List.set_cons_zero, List.set_cons_succ, i64_w, i32_w]
                        rfl
                      refine last_ (i := 14) (N := none) #[true, true, true, true, true, true, true, true, true, true, true, true, true, true, true] rfl rfl (one_of HT_.out (by kernel_rfl)) (by decide) (fun K hK => ?_)
                      refine skip_ (w1 := ?_) (by rfl) rfl ?_ ?_
                      rotate_left
                      · go_simp
                        rfl
                      refine hK.out _ _ ?_
                      clear hK K
                      refine done_ (done_of HT_.out (by kernel_rfl)) ?_
                      try go_wp2
                      go_roundg k1
                      case measure => have := HK1.out; omega
                      case rel => exact ⟨(ji35), (y165), (.slice (some ⟨go33, 0, none⟩) x161001_1.length co41), (by first | rfl | (simp; done) | (simp only [← hji35] <;> (first | rfl | simp)) | (simp [*]; done)), H', ⟨by have := HK1.out; omega⟩, ⟨by (with_reducible repeat (first | apply Kd.R_alloc | apply Kd.R_drewN | apply Kd.R_drew)); exact HQ46.out⟩, ⟨by (with_reducible repeat (first | refine blk_drewN ?_ _ | refine blk_drew ?_ | refine blk_alloc ?_ _)); refine blk_far ?_ (by have h_ := Kd.R_ne HO_161001.out BK148.out (by decide); intro e_; exact h_ (by rw [e_]; rfl)) _; (with_reducible repeat (first | refine blk_drewN ?_ _ | refine blk_drew ?_ | refine blk_alloc ?_ _)); exact BK148.out⟩, ⟨by (with_reducible repeat (first | refine blk_drewN ?_ _ | refine blk_drew ?_ | refine blk_alloc ?_ _)); refine blk_far ?_ (by have h_ := Kd.R_ne HO_161001.out BK149.out (by decide); intro e_; exact h_ (by rw [e_]; rfl)) _; (with_reducible repeat (first | refine blk_drewN ?_ _ | refine blk_drew ?_ | refine blk_alloc ?_ _)); exact BK149.out⟩, ⟨by (with_reducible repeat (first | refine blk_drewN ?_ _ | refine blk_drew ?_ | refine blk_alloc ?_ _)); refine blk_far ?_ (by have h_ := Kd.R_ne HO_161001.out BK160.out (by decide); intro e_; exact h_ (by rw [e_]; rfl)) _; (with_reducible repeat (first | refine blk_drewN ?_ _ | refine blk_drew ?_ | refine blk_alloc ?_ _)); exact BK160.out⟩, ⟨by repeat (first | (with_reducible first | exact HB.out | apply below_alloc | apply pw_below_drewN | apply below_drew1 | refine below_set ?_ GB33.out | refine below_set ?_ GE148.out | refine below_set ?_ GE149.out | refine below_set ?_ GE160.out) | exact HB.out)⟩⟩
                    · rw [if_neg c36] at H
                      exact absurd H (by simp)
                  · rw [if_neg c34] at H
                    have c34b0 : decide ((wrap64 (x30_1 + 1)) < (x161001_1.length : Int)) = false := decide_eq_false c34
                    clear c34
                    have H' := Aside0.mk H
                    clear H
                    have hnb47 := NB160_148.out
                    have hnc47 := NB148_160.out
                    have hnb48 := NB160_149.out
                    have hnc48 := NB149_160.out
                    have hcz49_0 : wr.cell? ⟨gb160, 0, none⟩ = some (.int .i64 t156) := (blk_cell BK160.out 0).trans rfl
                    have hcz49_1 : wr.cell? ⟨gb160, 1, none⟩ = some (u161001) := (blk_cell BK160.out 1).trans rfl
                    have hfz49_0 := blk_frozen BK160.out 0
                    have hfz49_1 := blk_frozen BK160.out 1
                    obtain ⟨Ao50, co50, eo50⟩ := Kd.R_slice HO_161001.out
                    subst eo50
                    have p161 : 0 ≤ (x30_1 : Int) := of_decide_eq_true (by first | (with_reducible assumption) | assumption)
                    have q161 : x30_1 < (x161001_1.length : Int) := of_decide_eq_true (by first | (with_reducible assumption) | assumption)
                    obtain ⟨ad161, e161, hx161_0⟩ := Kd.at_int (Kd.R_reads' HO_161001.out).2.2 x30_1 p161 q161
                    cases e161
                    replace p161 := eq_true p161
                    replace q161 := eq_true q161
                    have p33 : 0 ≤ (x30_1 : Int) := of_decide_eq_true (by first | (with_reducible assumption) | assumption)
                    have q33 : (x30_1 : Int) < ((x161001_1.length : Int) : Int) := of_decide_eq_true (by first | (with_reducible assumption) | assumption)
                    obtain ⟨go33, co33, eo33, gb33, gl33, cl33, HG33⟩ := Kd.R_form HO_161001.out (by omega)
                    (first | cases eo33 | (injection eo33 with ea_ en_ ec_; (first | subst ea_ | (injection ea_ with ea_; subst ea_)); subst ec_; clear en_))
                    have GB33 := Aside0.mk gb33
                    have GG33 := Aside0.mk HG33
                    clear gb33 gl33 HG33
                    (first | simp only [add_plain] at hx161_0 | skip)
                    obtain ⟨hx33_0, hf33_0⟩ := Kd.R_celln 0 HO_161001.out (x30_1 : Int) p33 q33
                    replace p33 := eq_true p33
                    replace q33 := eq_true q33
                    have HP51 := Kd.R_putg HO_161001.out (x30_1 : Int) ((rd x161001_1 x30_1) / 2)
                    go_wp2_with (first | ((with_reducible refine gate_store (t := 58) (p := 39) rfl ?_); refine store_event (t := 58) (p := 39) (v := ?vo_w52) (w1 := (wr.setCell ⟨go33, (x30_1 : Int).toNat, none⟩ (.int .u64 ((rd x161001_1 x30_1) / 2)))) ?hg ?ho ?hn ?hr ?_; (case ho => rfl); (case hg => rfl); (case hn => rfl); (case hr => first | (go_simp; done) | (go_simp; rfl)); intro w52 hw; have hg : wr.grownBy w52 (some go33) := (by rw [hw]; exact HP51.2); have hp_ : Kd.R (Kd.int .u64) 58 w52 w.heap.size (fun _ => True) (.slice (some ⟨go33, 0, none⟩) x161001_1.length co50) y162 := (by rw [hw, Ny162.out]; exact HP51.1); clear HP51; have n0_ := Aside0.mk (hp_); have n1_ := Aside0.mk (blk_grown (g := gb148) (o := .cells #[.int .i64 a0_0, .slice (some ad155) l0_1.length c0_1] 24 (0, 0)) (by (with_reducible repeat (first | refine blk_drewN ?_ _ | refine blk_drew ?_ | refine blk_alloc ?_ _)); exact BK148.out) hg (Kd.R_ne HO_161001.out BK148.out (by decide))); have n2_ := Aside0.mk (blk_grown (g := gb149) (o := .cells #[.int .i64 0, .slice none 0 0] 24 (0, 0)) (by (with_reducible repeat (first | refine blk_drewN ?_ _ | refine blk_drew ?_ | refine blk_alloc ?_ _)); exact BK149.out) hg (Kd.R_ne HO_161001.out BK149.out (by decide))); have n3_ := Aside0.mk (blk_grown (g := gb160) (o := .cells #[.int .i64 t156, .slice (some ⟨go33, 0, none⟩) x161001_1.length co50] 24 (0, 0)) (by (with_reducible repeat (first | refine blk_drewN ?_ _ | refine blk_drew ?_ | refine blk_alloc ?_ _)); exact BK160.out) hg (Kd.R_ne HO_161001.out BK160.out (by decide))); have n4_ := Aside0.mk ((by rw [hw]; exact below_set (HB.out) GB33.out : Below w.heap.size w w52)); clear HO_161001; clear BK148; clear BK149; clear BK160; clear HB; have HO_161001 := n0_; have BK148 := n1_; have BK149 := n2_; have BK160 := n3_; have HB := n4_; clear n0_ n1_ n2_ n3_ n4_; clear hg hw hp_; have hcz53_0 : w52.cell? ⟨gb160, 0, none⟩ = some (.int .i64 t156) := (blk_cell BK160.out 0).trans rfl; have hcz53_1 : w52.cell? ⟨gb160, 1, none⟩ = some (.slice (some ⟨go33, 0, none⟩) x161001_1.length co50) := (blk_cell BK160.out 1).trans rfl; have hfz53_0 := blk_frozen BK160.out 0; have hfz53_1 := blk_frozen BK160.out 1))
                    go_roundg k1
                    case measure => have := HK1.out; omega
                    case rel => exact ⟨(wrap64 (x30_1 + 1)), (y162), (.slice (some ⟨go33, 0, none⟩) x161001_1.length co50), (by first | rfl | (simp; done) | (simp [*]; done) | (simp [wrap64]; done)), H', ⟨by have := HK1.out; omega⟩, ⟨by (with_reducible repeat (first | apply Kd.R_alloc | apply Kd.R_drewN | apply Kd.R_drew)); exact HO_161001.out⟩, ⟨by (with_reducible repeat (first | refine blk_drewN ?_ _ | refine blk_drew ?_ | refine blk_alloc ?_ _)); exact BK148.out⟩, ⟨by (with_reducible repeat (first | refine blk_drewN ?_ _ | refine blk_drew ?_ | refine blk_alloc ?_ _)); exact BK149.out⟩, ⟨by (with_reducible repeat (first | refine blk_drewN ?_ _ | refine blk_drew ?_ | refine blk_alloc ?_ _)); exact BK160.out⟩, ⟨by repeat (first | (with_reducible first | exact HB.out | apply below_alloc | apply pw_below_drewN | apply below_drew1 | refine below_set ?_ GE148.out | refine below_set ?_ GE149.out | refine below_set ?_ GE160.out) | exact HB.out)⟩⟩
                · rw [if_neg c32] at H
                  exact absurd H (by simp)
              · rw [if_neg c31] at H
                exact absurd H (by simp)
            · rw [if_neg c30] at H
              have c30b0 : decide (x30_1 < (t157.length : Int)) = false := decide_eq_false c30
              clear c30
              by_cases c54 : a1 = true
              · subst c54
                have H1 : (if 0 ≤ (wrap64 (Int.tdiv (wrap64 (t156 - 1)) 64)) then (if (wrap64 (Int.tdiv (wrap64 (t156 - 1)) 64)) < (x161001_1.length : Int) then (if 0 ≤ (Int.tmod (wrap64 (t156 - 1)) 64) then (some (t156, (x161001_1.set ((wrap64 (Int.tdiv (wrap64 (t156 - 1)) 64)) : Int).toNat (Go.bits .or .u64 (rd x161001_1 (wrap64 (Int.tdiv (wrap64 (t156 - 1)) 64))) (shl .u64 1 (Int.tmod (wrap64 (t156 - 1)) 64)))), ((Go.bits .and .u64 (rd l0_1 0) 1) == 1), 0)) else (none)) else (none)) else (none)) = some (r1, r2, r3, r4) := by rw [if_pos rfl] at H; exact H
                clear H
                have H := H1
                clear H1
                obtain ⟨ji55, hji55⟩ : ∃ j_ : Int, (wrap64 (Int.tdiv (wrap64 (t156 - 1)) 64)) = j_ := ⟨_, rfl⟩
                replace H : (if 0 ≤ (ji55) then (if (ji55) < (x161001_1.length : Int) then (if 0 ≤ (Int.tmod (wrap64 (t156 - 1)) 64) then (some (t156, (x161001_1.set ((ji55) : Int).toNat (Go.bits .or .u64 (rd x161001_1 (ji55)) (shl .u64 1 (Int.tmod (wrap64 (t156 - 1)) 64)))), ((Go.bits .and .u64 (rd l0_1 0) 1) == 1), 0)) else (none)) else (none)) else (none)) = some (r1, r2, r3, r4) := by first | (rw [hji55] at H; exact H) | (simp only [hji55] at H ⊢; exact H)
                have hji55w : (IntKind.i64.wrap (Int.tdiv (wrap64 (t156 - 1)) 64)) = ji55 := (i64_w _).trans hji55
                by_cases c56 : 0 ≤ (ji55)
                · rw [if_pos c56] at H
                  have c56b0 : decide (0 ≤ (ji55)) = true := decide_eq_true c56
                  clear c56
                  by_cases c57 : (ji55) < (x161001_1.length : Int)
                  · rw [if_pos c57] at H
                    have c57b0 : decide ((ji55) < (x161001_1.length : Int)) = true := decide_eq_true c57
                    clear c57
                    obtain ⟨ji58, hji58⟩ : ∃ j_ : Int, (Int.tmod (wrap64 (t156 - 1)) 64) = j_ := ⟨_, rfl⟩
                    replace H : (if 0 ≤ (ji58) then (some (t156, (x161001_1.set ((ji55) : Int).toNat (Go.bits .or .u64 (rd x161001_1 (ji55)) (shl .u64 1 (ji58)))), ((Go.bits .and .u64 (rd l0_1 0) 1) == 1), 0)) else (none)) = some (r1, r2, r3, r4) := by first | (rw [hji58] at H; exact H) | (simp only [hji58] at H ⊢; exact H)
                    by_cases c59 : 0 ≤ (ji58)
                    · rw [if_pos c59] at H
                      have c59b0 := eq_true c59
                      have c59b1 : decide (0 ≤ (ji58)) = true := decide_eq_true c59
                      clear c59
                      obtain ⟨ji60, hji60⟩ : ∃ j_ : Int, (shl .u64 1 (ji58)) = j_ := ⟨_, rfl⟩
                      replace H : (some (t156, (x161001_1.set ((ji55) : Int).toNat (Go.bits .or .u64 (rd x161001_1 (ji55)) (ji60))), ((Go.bits .and .u64 (rd l0_1 0) 1) == 1), 0)) = some (r1, r2, r3, r4) := by first | (rw [hji60] at H; exact H) | (simp only [hji60] at H ⊢; exact H)
                      have hji60_ : (IntKind.u64.wrap (1 * 2 ^ min (ji58).toNat 64)) = ji60 := hji60
                      have hji60z : (ji58) ≤ 64 → (IntKind.u64.wrap (1 * 2 ^ (ji58).toNat)) = ji60 := shl_small hji60
                      have hji60u : (IntKind.u64.wrap (2 ^ min (ji58).toNat 64)) = ji60 := by have h_ := hji60_; rw [Int.one_mul] at h_; exact h_
                      have hji60v : (ji58) ≤ 64 → (IntKind.u64.wrap (2 ^ (ji58).toNat)) = ji60 := fun hle_ => by have h_ := hji60z hle_; rw [Int.one_mul] at h_; exact h_
                      obtain ⟨y167, hy167⟩ : ∃ y_ : List Int, y_ = (x161001_1.set ((ji55) : Int).toNat (Go.bits .or .u64 (rd x161001_1 (ji55)) (ji60))) := ⟨_, rfl⟩
                      replace H : (some (t156, y167, ((Go.bits .and .u64 (rd l0_1 0) 1) == 1), 0)) = some (r1, r2, r3, r4) := by first | (rw [hy167]; with_reducible exact H) | (have H2_ := (Option.bind_some _ _).symm.trans H; rw [hy167]; with_reducible exact H2_) | (have H2_ := (Option.bind_some _ _).symm.trans H; with_reducible exact H2_) | with_reducible exact H | (rw [hy167]; exact H) | exact H
                      have Ny167 := Aside0.mk hy167
                      clear hy167
                      simp only [Option.some.injEq, Prod.mk.injEq] at H
                      obtain ⟨rfl, rfl, rfl, rfl⟩ := H
                      try go_wp2
                      have n0_ := Aside0.mk (Kd.R_drew HO_161001.out)
                      have n1_ := Aside0.mk (blk_drew BK148.out)
                      have n2_ := Aside0.mk (blk_drew BK149.out)
                      have n3_ := Aside0.mk (blk_drew BK160.out)
                      have n4_ := Aside0.mk (below_drew1 HB.out)
                      clear HO_161001
                      clear BK148
                      clear BK149
                      clear BK160
                      clear HB
                      have HO_161001 := n0_
                      have BK148 := n1_
                      have BK149 := n2_
                      have BK160 := n3_
                      have HB := n4_
                      clear n0_ n1_ n2_ n3_ n4_
                      obtain ⟨Ao63, co63, eo63⟩ := Kd.R_slice HO_161001.out
                      (first | subst eo63 | (injection eo63 with f1_ f2_ f3_; have f4_ := f1_.symm; have f5_ := f3_.symm; clear f1_ f2_ f3_; subst f4_; subst f5_))
                      have p166 : 0 ≤ ((ji55) : Int) := of_decide_eq_true (by first | (with_reducible assumption) | assumption)
                      have q166 : (ji55) < (x161001_1.length : Int) := of_decide_eq_true (by first | (with_reducible assumption) | assumption)
                      obtain ⟨ad166, e166, hx166_0⟩ := Kd.at_int (Kd.R_reads' HO_161001.out).2.2 (ji55) p166 q166
                      cases e166
                      replace p166 := eq_true p166
                      replace q166 := eq_true q166
                      have p61 : 0 ≤ ((ji55) : Int) := of_decide_eq_true (by first | (with_reducible assumption) | assumption)
                      have q61 : ((ji55) : Int) < ((x161001_1.length : Int) : Int) := of_decide_eq_true (by first | (with_reducible assumption) | assumption)
                      obtain ⟨go61, co61, eo61, gb61, gl61, cl61, HG61⟩ := Kd.R_form HO_161001.out (by omega)
                      (first | cases eo61 | (injection eo61 with ea_ en_ ec_; (first | subst ea_ | (injection ea_ with ea_; subst ea_)); subst ec_; clear en_))
                      have GB61 := Aside0.mk gb61
                      have GG61 := Aside0.mk HG61
                      clear gb61 gl61 HG61
                      (first | simp only [add_plain] at hx166_0 | skip)
                      obtain ⟨hx61_0, hf61_0⟩ := Kd.R_celln 0 HO_161001.out ((ji55) : Int) p61 q61
                      replace p61 := eq_true p61
                      replace q61 := eq_true q61
                      have HP64 := Kd.R_putn HO_161001.out ((ji55) : Int) (Go.bits .or .u64 (rd x161001_1 (ji55)) (ji60))
                      rw [← Ny167.out] at HP64
                      have HQ64 := Aside0.mk HP64
                      clear HP64
                      refine start_ (n := 16) (S := fun w' => w'.cell? ⟨gb160, 0, none⟩ = some (.int .i64 t156) ∧ w'.cell? ⟨gb160, 1, none⟩ = some (.slice (some ⟨go61, 0, none⟩) x161001_1.length co63) ∧ w'.cell? ⟨go61, ((ji55)).toNat, none⟩ = some (.int .u64 (rd x161001_1 (ji55)))) (ds := [15]) #[false, false, false, false, false, false, false, false, false, false, false, false, false, false, false, false] (by kernel_rfl) rfl rfl ⟨(blk_cell BK160.out 0).trans rfl, (blk_cell BK160.out 1).trans rfl, hx166_0⟩ (fun hHeld => ?_); refine with_tabW words_Down.tab15 words_Down.bits15 (fun HT_ HW_ => ?_)
                      generalize wr.drew = w62 at HO_161001 BK148 BK149 BK160 HB GG61 HQ64 hf61_0 hx166_0 hx61_0 hHeld ⊢
                      refine pure_ (i := 0) (N := some 62) (v := ?_) (a' := ?_) #[true, false, false, false, false, false, false, false, false, false, false, false, false, false, false, false] rfl rfl (any_of HT_.out (by kernel_rfl)) (fun _ _ _ h => h) (Or.inl ⟨by rfl, ?_⟩) ?_ ?_
                      rotate_left
                      · intro w'
                        go_simp
                        with_reducible rfl
                      rotate_left
                      · simp only [Act.put, List.setIfInBounds_toArray, List.set_cons_zero, List.set_cons_succ, i64_w, i32_w]
                        rfl
                      refine pure_ (i := 2) (N := some 64) (v := ?_) (a' := ?_) #[true, false, true, false, false, false, false, false, false, false, false, false, false, false, false, false] rfl rfl (any_of HT_.out (by kernel_rfl)) (fun _ _ _ h => h) (Or.inl ⟨by rfl, ?_⟩) ?_ ?_
                      rotate_left
                      · intro w'
                        go_simp
                        with_reducible rfl
                      rotate_left
                      · simp only [Act.put, List.setIfInBounds_toArray, List.set_cons_zero, List.set_cons_succ, i64_w, i32_w]
                        rfl
                      refine pure_ (i := 8) (N := some 70) (v := ?_) (a' := ?_) #[true, false, true, false, false, false, false, false, true, false, false, false, false, false, false, false] rfl rfl (any_of HT_.out (by kernel_rfl)) (fun _ _ _ h => h) (Or.inl ⟨by rfl, ?_⟩) ?_ ?_
                      rotate_left
                      · intro w'
                        go_simp
                        with_reducible rfl
                      rotate_left
                      · simp only [Act.put, List.setIfInBounds_toArray, List.set_cons_zero, List.set_cons_succ, i64_w, i32_w]
                        rfl
                      refine take_ (i := 1) (N := some 63) (v := ?_) (a' := ?_) #[true, true, true, false, false, false, false, false, true, false, false, false, false, false, false, false] rfl rfl (take_ofW HT_.out HW_.out (by kernel_rfl)) (fun _ _ _ h => h) (Or.inl ⟨by rfl, ?_⟩) hHeld ?_ ?_
                      rotate_left
                      · rintro w' ⟨s0, s1, s2⟩
                        go_simp
                        with_reducible rfl
                      rotate_left
                      · simp only [Act.put, List.setIfInBounds_toArray, List.set_cons_zero, List.set_cons_succ, i64_w, i32_w]
                        rfl
                      refine take_ (i := 3) (N := some 65) (v := ?_) (a' := ?_) #[true, true, true, true, false, false, false, false, true, false, false, false, false, false, false, false] rfl rfl (take_ofW HT_.out HW_.out (by kernel_rfl)) (fun _ _ _ h => h) (Or.inl ⟨by rfl, ?_⟩) hHeld ?_ ?_
                      rotate_left
                      · rintro w' ⟨s0, s1, s2⟩
                        go_simp
                        with_reducible rfl
                      rotate_left
                      · simp only [Act.put, List.setIfInBounds_toArray, List.set_cons_zero, List.set_cons_succ, i64_w, i32_w]
                        rfl
                      refine pure_ (i := 4) (N := some 66) (v := ?_) (a' := ?_) #[true, true, true, true, true, false, false, false, true, false, false, false, false, false, false, false] rfl rfl (any_of HT_.out (by kernel_rfl)) (fun _ _ _ h => h) (Or.inl ⟨by rfl, ?_⟩) ?_ ?_
                      rotate_left
                      · intro w'
                        go_simp
                        with_reducible rfl
                      rotate_left
                      · simp only [Act.put, List.setIfInBounds_toArray, List.set_cons_zero, List.set_cons_succ, i64_w, i32_w]
                        rfl
                      refine pure_ (i := 5) (N := some 67) (v := ?_) (a' := ?_) #[true, true, true, true, true, true, false, false, true, false, false, false, false, false, false, false] rfl rfl (any_of HT_.out (by kernel_rfl)) (fun _ _ _ h => h) (Or.inl ⟨by rfl, ?_⟩) ?_ ?_
                      rotate_left
                      · intro w'
                        go_simp
                        with_reducible rfl
                      rotate_left
                      · simp only [Act.put, List.setIfInBounds_toArray, List.set_cons_zero, List.set_cons_succ, i64_w, i32_w]
                        rfl
                      refine pure_ (i := 6) (N := some 68) (v := ?_) (a' := ?_) #[true, true, true, true, true, true, true, false, true, false, false, false, false, false, false, false] rfl rfl (any_of HT_.out (by kernel_rfl)) (fun _ _ _ h => h) (Or.inl ⟨by rfl, ?_⟩) ?_ ?_
                      rotate_left
                      · intro w'
                        go_simp
                        with_reducible rfl
                      rotate_left
                      · simp only [Act.put, List.setIfInBounds_toArray, List.set_cons_zero, List.set_cons_succ, i64_w, i32_w]
                        rfl
                      refine take_ (i := 7) (N := some 69) (v := ?_) (a' := ?_) #[true, true, true, true, true, true, true, true, true, false, false, false, false, false, false, false] rfl rfl (take_ofW HT_.out HW_.out (by kernel_rfl)) (fun _ _ _ h => h) (Or.inl ⟨by rfl, ?_⟩) hHeld ?_ ?_
                      rotate_left
                      · rintro w' ⟨s0, s1, s2⟩
                        go_simp
                        with_reducible rfl
                      rotate_left
                      · simp only [Act.put, List.setIfInBounds_toArray, List.set_cons_zero, List.set_cons_succ, i64_w, i32_w]
                        rfl
                      refine take_ (i := 9) (N := some 71) (v := ?_) (a' := ?_) #[true, true, true, true, true, true, true, true, true, true, false, false, false, false, false, false] rfl rfl (take_ofW HT_.out HW_.out (by kernel_rfl)) (fun _ _ _ h => h) (Or.inl ⟨by rfl, ?_⟩) hHeld ?_ ?_
                      rotate_left
                      · rintro w' ⟨s0, s1, s2⟩
                        go_simp
                        with_reducible rfl
                      rotate_left
                      · simp only [Act.put, List.setIfInBounds_toArray, List.set_cons_zero, List.set_cons_succ, i64_w, i32_w]
                        rfl
                      refine pure_ (i := 10) (N := some 72) (v := ?_) (a' := ?_) #[true, true, true, true, true, true, true, true, true, true, true, false, false, false, false, false] rfl rfl (any_of HT_.out (by kernel_rfl)) (fun _ _ _ h => h) (Or.inl ⟨by rfl, ?_⟩) ?_ ?_
                      rotate_left
                      · intro w'
                        go_simp
                        with_reducible rfl
                      rotate_left
                      · simp only [Act.put, List.setIfInBounds_toArray, List.set_cons_zero, List.set_cons_succ, i64_w, i32_w]
                        rfl
                      refine pure_ (i := 11) (N := some 73) (v := ?_) (a' := ?_) #[true, true, true, true, true, true, true, true, true, true, true, true, false, false, false, false] rfl rfl (any_of HT_.out (by kernel_rfl)) (fun _ _ _ h => h) (Or.inl ⟨by rfl, ?_⟩) ?_ ?_
                      rotate_left
                      · intro w'
                        go_simp
                        with_reducible rfl
                      rotate_left
                      · simp only [Act.put, List.setIfInBounds_toArray, List.set_cons_zero, List.set_cons_succ, i64_w, i32_w]
                        rfl
                      refine pure_ (i := 12) (N := some 74) (v := ?_) (a' := ?_) #[true, true, true, true, true, true, true, true, true, true, true, true, true, false, false, false] rfl rfl (any_of HT_.out (by kernel_rfl)) (fun _ _ _ h => h) (Or.inl ⟨by rfl, ?_⟩) ?_ ?_
                      rotate_left
                      · intro w'
                        go_simp
                        with_reducible rfl
                      rotate_left
                      · simp only [Act.put, List.setIfInBounds_toArray, List.set_cons_zero, List.set_cons_succ, i64_w, i32_w]
                        rfl
                      refine pure_ (i := 13) (N := some 75) (v := ?_) (a' := ?_) #[true, true, true, true, true, true, true, true, true, true, true, true, true, true, false, false] rfl rfl (any_of HT_.out (by kernel_rfl)) (fun _ _ _ h => h) (Or.inl ⟨by rfl, ?_⟩) ?_ ?_
                      rotate_left
                      · intro w'
                        go_simp
                        with_reducible rfl
                      rotate_left
                      · simp only [Act.put, List.setIfInBounds_toArray, List.set_cons_zero, List.set_cons_succ, i64_w, i32_w]
                        rfl
                      refine pure_ (i := 14) (N := some 76) (v := ?_) (a' := ?_) #[true, true, true, true, true, true, true, true, true, true, true, true, true, true, true, false] rfl rfl (any_of HT_.out (by kernel_rfl)) (fun _ _ _ h => h) (Or.inl ⟨by rfl, ?_⟩) ?_ ?_
                      rotate_left
                      · intro w'
                        go_simp
                        with_reducible rfl
                      rotate_left
                      · simp only [Act.put, List.setIfInBounds_toArray, List.set_cons_zero, List.set_cons_succ, i64_w, i32_w]
                        rfl
                      refine last_ (i := 15) (N := none) #[true, true, true, true, true, true, true, true, true, true, true, true, true, true, true, true] rfl rfl (one_of HT_.out (by kernel_rfl)) (by decide) (fun K hK => ?_)
                      refine skip_ (w1 := ?_) (by rfl) rfl ?_ ?_
                      rotate_left
                      · go_simp
                        rfl
                      refine hK.out _ _ ?_
                      clear hK K
                      refine done_ (done_of HT_.out (by kernel_rfl)) ?_
                      have n0_ : Aside0 (Kd.R (Kd.int .u64) 58 (w62.setCell ⟨go61, ((ji55) : Int).toNat, none⟩ (.int .u64 (Go.bits .or .u64 (rd x161001_1 (ji55)) (ji60)))) w.heap.size (fun _ => True) (.slice (some ⟨go61, 0, none⟩) x161001_1.length co63) y167) := ⟨by (with_reducible repeat (first | apply Kd.R_alloc | apply Kd.R_drewN | apply Kd.R_drew)); exact HQ64.out⟩
                      have n1_ : Aside0 ((w62.setCell ⟨go61, ((ji55) : Int).toNat, none⟩ (.int .u64 (Go.bits .or .u64 (rd x161001_1 (ji55)) (ji60)))).heap[gb148]? = some (.cells #[.int .i64 a0_0, .slice (some ad155) l0_1.length c0_1] 24 (0, 0))) := ⟨by (with_reducible repeat (first | refine blk_drewN ?_ _ | refine blk_drew ?_ | refine blk_alloc ?_ _)); refine blk_far ?_ (by have h_ := Kd.R_ne HO_161001.out BK148.out (by decide); intro e_; exact h_ (by rw [e_]; rfl)) _; (with_reducible repeat (first | refine blk_drewN ?_ _ | refine blk_drew ?_ | refine blk_alloc ?_ _)); exact BK148.out⟩
                      have n2_ : Aside0 ((w62.setCell ⟨go61, ((ji55) : Int).toNat, none⟩ (.int .u64 (Go.bits .or .u64 (rd x161001_1 (ji55)) (ji60)))).heap[gb149]? = some (.cells #[.int .i64 0, .slice none 0 0] 24 (0, 0))) := ⟨by (with_reducible repeat (first | refine blk_drewN ?_ _ | refine blk_drew ?_ | refine blk_alloc ?_ _)); refine blk_far ?_ (by have h_ := Kd.R_ne HO_161001.out BK149.out (by decide); intro e_; exact h_ (by rw [e_]; rfl)) _; (with_reducible repeat (first | refine blk_drewN ?_ _ | refine blk_drew ?_ | refine blk_alloc ?_ _)); exact BK149.out⟩
                      have n3_ : Aside0 ((w62.setCell ⟨go61, ((ji55) : Int).toNat, none⟩ (.int .u64 (Go.bits .or .u64 (rd x161001_1 (ji55)) (ji60)))).heap[gb160]? = some (.cells #[.int .i64 t156, .slice (some ⟨go61, 0, none⟩) x161001_1.length co63] 24 (0, 0))) := ⟨by (with_reducible repeat (first | refine blk_drewN ?_ _ | refine blk_drew ?_ | refine blk_alloc ?_ _)); refine blk_far ?_ (by have h_ := Kd.R_ne HO_161001.out BK160.out (by decide); intro e_; exact h_ (by rw [e_]; rfl)) _; (with_reducible repeat (first | refine blk_drewN ?_ _ | refine blk_drew ?_ | refine blk_alloc ?_ _)); exact BK160.out⟩
                      have n4_ : Aside0 (Below w.heap.size w (w62.setCell ⟨go61, ((ji55) : Int).toNat, none⟩ (.int .u64 (Go.bits .or .u64 (rd x161001_1 (ji55)) (ji60))))) := ⟨by repeat (first | (with_reducible first | exact HB.out | apply below_alloc | apply pw_below_drewN | apply below_drew1 | refine below_set ?_ GB61.out | refine below_set ?_ GE148.out | refine below_set ?_ GE149.out | refine below_set ?_ GE160.out) | exact HB.out)⟩
                      (try clear HO_161001)
                      (try clear BK148)
                      (try clear BK149)
                      (try clear BK160)
                      (try clear HB)
                      generalize (w62.setCell ⟨go61, ((ji55) : Int).toNat, none⟩ (.int .u64 (Go.bits .or .u64 (rd x161001_1 (ji55)) (ji60)))) = w65 at n0_ n1_ n2_ n3_ n4_ ⊢
                      have HO_161001 := n0_
                      have BK148 := n1_
                      have BK149 := n2_
                      have BK160 := n3_
                      have HB := n4_
                      clear n0_ n1_ n2_ n3_ n4_
                      have hnb66 := NB160_148.out
                      have hnc66 := NB148_160.out
                      have hnb67 := NB160_149.out
                      have hnc67 := NB149_160.out
                      have hcz68_0 : w65.cell? ⟨gb160, 0, none⟩ = some (.int .i64 t156) := (blk_cell BK160.out 0).trans rfl
                      have hcz68_1 : w65.cell? ⟨gb160, 1, none⟩ = some (.slice (some ⟨go61, 0, none⟩) x161001_1.length co63) := (blk_cell BK160.out 1).trans rfl
                      have hfz68_0 := blk_frozen BK160.out 0
                      have hfz68_1 := blk_frozen BK160.out 1
                      have hnb69 := NB149_148.out
                      have hnc69 := NB148_149.out
                      have hcz70_0 : w65.cell? ⟨gb149, 0, none⟩ = some (.int .i64 0) := (blk_cell BK149.out 0).trans rfl
                      have hcz70_1 : w65.cell? ⟨gb149, 1, none⟩ = some (.slice none 0 0) := (blk_cell BK149.out 1).trans rfl
                      have hfz70_0 := blk_frozen BK149.out 0
                      have hfz70_1 := blk_frozen BK149.out 1
                      try go_wp2
                      refine bodyPost_ret (results_ctt rfl _ _ gb149 24 #[.int .i64 t156, .slice (some ⟨go61, 0, none⟩) x161001_1.length co63] (0, 0) _ rfl (by (with_reducible repeat (first | refine blk_drewN ?_ _ | refine blk_drew ?_ | refine blk_alloc ?_ _)); refine blk_put (cs := #[.int .i64 t156, .slice none 0 0]) ?_ 1 _ rfl; (with_reducible repeat (first | refine blk_drewN ?_ _ | refine blk_drew ?_ | refine blk_alloc ?_ _)); refine blk_put (cs := #[.int .i64 0, .slice none 0 0]) ?_ 0 _ rfl; (with_reducible repeat (first | refine blk_drewN ?_ _ | refine blk_drew ?_ | refine blk_alloc ?_ _)); exact BK149.out) Tryd.underlying24 rfl (by kernel_rfl)) rfl ?_
                      exact ⟨_, by first | rfl | (simp [errW_none, errW_some] <;> rfl) | (simp only [← hji55, ← hji58, ← hji60]; first | rfl | (simp [errW_none, errW_some] <;> rfl)) | (simp [*, errW_none, errW_some] <;> rfl), by (with_reducible repeat (first | apply Kd.R_alloc | apply Kd.R_drewN | apply Kd.R_drew)); exact Kd.R_mono (Kd.R_far (p := ⟨gb149, 1, none⟩) (Kd.R_far (p := ⟨gb149, 0, none⟩) (Kd.R_types HO_161001.out BK149.out (by decide)) (fun _ hk => hk.2) (.int .i64 t156)) (fun _ hk => hk.2) (.slice (some ⟨go61, 0, none⟩) x161001_1.length co63)) (fun _ hk => trivial), by repeat (first | (with_reducible first | exact HB.out | apply below_alloc | apply pw_below_drewN | apply below_drew1 | refine below_set ?_ GE148.out | refine below_set ?_ GE149.out | refine below_set ?_ GE160.out) | exact HB.out)⟩
                    · rw [if_neg c59] at H
                      exact absurd H (by simp)
                  · rw [if_neg c57] at H
                    exact absurd H (by simp)
                · rw [if_neg c56] at H
                  exact absurd H (by simp)
              · replace c54 := Bool.eq_false_iff.mpr c54
                subst c54
                have H1 : (some (t156, x161001_1, ((Go.bits .and .u64 (rd l0_1 0) 1) == 1), 0)) = some (r1, r2, r3, r4) := by rw [if_neg (show ¬ (false = true) by decide)] at H; exact H
                clear H
                have H := H1
                clear H1
                simp only [Option.some.injEq, Prod.mk.injEq] at H
                obtain ⟨rfl, rfl, rfl, rfl⟩ := H
                have hnb71 := NB160_148.out
                have hnc71 := NB148_160.out
                have hnb72 := NB160_149.out
                have hnc72 := NB149_160.out
                have hcz73_0 : wr.cell? ⟨gb160, 0, none⟩ = some (.int .i64 t156) := (blk_cell BK160.out 0).trans rfl
                have hcz73_1 : wr.cell? ⟨gb160, 1, none⟩ = some (u161001) := (blk_cell BK160.out 1).trans rfl
                have hfz73_0 := blk_frozen BK160.out 0
                have hfz73_1 := blk_frozen BK160.out 1
                have hnb74 := NB149_148.out
                have hnc74 := NB148_149.out
                have hcz75_0 : wr.cell? ⟨gb149, 0, none⟩ = some (.int .i64 0) := (blk_cell BK149.out 0).trans rfl
                have hcz75_1 : wr.cell? ⟨gb149, 1, none⟩ = some (.slice none 0 0) := (blk_cell BK149.out 1).trans rfl
                have hfz75_0 := blk_frozen BK149.out 0
                have hfz75_1 := blk_frozen BK149.out 1
                obtain ⟨Ao76, co76, eo76⟩ := Kd.R_slice HO_161001.out
                subst eo76
                go_wp2
                refine bodyPost_ret (results_ctt rfl _ _ gb149 24 #[.int .i64 t156, .slice Ao76 x161001_1.length co76] (0, 0) _ rfl (by (with_reducible repeat (first | refine blk_drewN ?_ _ | refine blk_drew ?_ | refine blk_alloc ?_ _)); refine blk_put (cs := #[.int .i64 t156, .slice none 0 0]) ?_ 1 _ rfl; (with_reducible repeat (first | refine blk_drewN ?_ _ | refine blk_drew ?_ | refine blk_alloc ?_ _)); refine blk_put (cs := #[.int .i64 0, .slice none 0 0]) ?_ 0 _ rfl; (with_reducible repeat (first | refine blk_drewN ?_ _ | refine blk_drew ?_ | refine blk_alloc ?_ _)); exact BK149.out) Tryd.underlying24 rfl (by kernel_rfl)) rfl ?_
                exact ⟨_, by first | rfl | (simp [errW_none, errW_some] <;> rfl) | (simp [*, errW_none, errW_some] <;> rfl), by (with_reducible repeat (first | apply Kd.R_alloc | apply Kd.R_drewN | apply Kd.R_drew)); exact Kd.R_mono (Kd.R_far (p := ⟨gb149, 1, none⟩) (Kd.R_far (p := ⟨gb149, 0, none⟩) (Kd.R_types HO_161001.out BK149.out (by decide)) (fun _ hk => hk.2) (.int .i64 t156)) (fun _ hk => hk.2) (.slice Ao76 x161001_1.length co76)) (fun _ hk => trivial), by repeat (first | (with_reducible first | exact HB.out | apply below_alloc | apply pw_below_drewN | apply below_drew1 | refine below_set ?_ GE148.out | refine below_set ?_ GE149.out | refine below_set ?_ GE160.out) | exact HB.out)⟩
      · rw [if_neg c16] at H
        exact absurd H (by simp)
  · replace c4 := Bool.eq_false_iff.mpr c4
    subst c4
    have H1 : (some (0, ([] : List Int), false, 20)) = some (r1, r2, r3, r4) := by rw [if_neg (show ¬ (false = true) by decide)] at H; exact H
    clear H
    have H := H1
    clear H1
    simp only [Option.some.injEq, Prod.mk.injEq] at H
    obtain ⟨rfl, rfl, rfl, rfl⟩ := H
    go_enter Tryd.func20, Tryd.ntmps20
    go_wp2_with (first | ((with_reducible refine gate_dst (N := 2) rfl ?_); refine box_event ?hg (N := 2) ?hd (cs := #[.int .i64 a0_0, .slice A0_1 l0_1.length c0_1]) (t := 24) ?hr ?_; (case hd => rfl); (case hg => rfl); (case hr => first | (go_simp; done) | (go_simp; rfl)); intro gb148 hg w77 hbox hb; have n0_ := Aside0.mk (below_step (by repeat (first | (with_reducible first | exact HB.out | apply below_alloc | apply pw_below_drewN | apply below_drew1) | exact HB.out)) hb); have n1_ := Aside0.mk (hbox); have n2_ := Aside0.mk ((by rw [hg]; exact (below_size (by repeat (first | (with_reducible first | exact HB.out | apply below_alloc | apply pw_below_drewN | apply below_drew1) | exact HB.out))) : w.heap.size ≤ gb148)); have n3_ := Aside0.mk ((by rw [hg]; exact (below_size (by repeat (first | (with_reducible first | exact HB.out | apply below_alloc | apply pw_below_drewN | apply below_drew1) | exact HB.out))) : w.heap.size ≤ gb148)); clear HB; have HB := n0_; have BK148 := n1_; have GW148 := n2_; have GE148 := n3_; clear n0_ n1_ n2_ n3_; clear hb hbox hg) | ((with_reducible refine gate_dst (N := 4) rfl ?_); refine box_event ?hg (N := 4) ?hd (cs := #[.int .i64 0, .slice none 0 0]) (t := 24) ?hr ?_; (case hd => rfl); (case hg => rfl); (case hr => first | (go_simp; done) | (go_simp; rfl)); intro gb149 hg w78 hbox hb; have n0_ := Aside0.mk (blk_below (g := gb148) (o := .cells #[.int .i64 a0_0, .slice A0_1 l0_1.length c0_1] 24 (0, 0)) (by (with_reducible repeat (first | refine blk_drewN ?_ _ | refine blk_drew ?_ | refine blk_alloc ?_ _)); exact BK148.out) hb); have n1_ := Aside0.mk (below_step (by repeat (first | (with_reducible first | exact HB.out | apply below_alloc | apply pw_below_drewN | apply below_drew1 | refine below_set ?_ GE148.out) | exact HB.out)) hb); have n2_ := Aside0.mk (hbox); have n3_ := Aside0.mk ((by rw [hg]; exact (below_size (by repeat (first | (with_reducible first | exact HB.out | apply below_alloc | apply pw_below_drewN | apply below_drew1 | refine below_set ?_ GE148.out) | exact HB.out))) : w.heap.size ≤ gb149)); have n4_ := Aside0.mk ((by rw [hg]; exact (below_size (by repeat (first | (with_reducible first | exact HB.out | apply below_alloc | apply pw_below_drewN | apply below_drew1 | refine below_set ?_ GE148.out) | exact HB.out))) : w.heap.size ≤ gb149)); have n5_ := Aside0.mk ((by rw [hg]; exact Nat.ne_of_lt (blk_lt (g := gb148) (o := .cells #[.int .i64 a0_0, .slice A0_1 l0_1.length c0_1] 24 (0, 0)) (by (with_reducible repeat (first | refine blk_drewN ?_ _ | refine blk_drew ?_ | refine blk_alloc ?_ _)); exact BK148.out)) : gb148 ≠ gb149)); have n6_ := Aside0.mk ((by rw [hg]; exact Nat.ne_of_gt (blk_lt (g := gb148) (o := .cells #[.int .i64 a0_0, .slice A0_1 l0_1.length c0_1] 24 (0, 0)) (by (with_reducible repeat (first | refine blk_drewN ?_ _ | refine blk_drew ?_ | refine blk_alloc ?_ _)); exact BK148.out)) : gb149 ≠ gb148)); clear BK148; clear HB; have BK148 := n0_; have HB := n1_; have BK149 := n2_; have GW149 := n3_; have GE149 := n4_; have NB148_149 := n5_; have NB149_148 := n6_; clear n0_ n1_ n2_ n3_ n4_ n5_ n6_; clear hb hbox hg; have hnb79 := NB148_149.out; have hnc79 := NB149_148.out; have hcz80_0 : w78.cell? ⟨gb148, 0, none⟩ = some (.int .i64 a0_0) := (blk_cell BK148.out 0).trans rfl; have hcz80_1 : w78.cell? ⟨gb148, 1, none⟩ = some (.slice A0_1 l0_1.length c0_1) := (blk_cell BK148.out 1).trans rfl; have hfz80_0 := blk_frozen BK148.out 0; have hfz80_1 := blk_frozen BK148.out 1) | ((with_reducible refine gate_callee (f := 29) rfl ?_); refine goesL_ (some 11) rfl rfl Tryd.func29 (by kernel_rfl) rfl #[.agg #[.int .i64 a0_0, .slice A0_1 l0_1.length c0_1]] rfl (by (try simp only [List.map_toArray, List.map_cons, List.map_nil]); first | done | rfl | (simp only [List.length_drop, List.length_take]; rfl)) ?_; (with_reducible refine (words_Valid.calls a0_0 _ _ l0_1 false _ ?side1 ?side2 A3.out).mono ?_); (case side1 => repeat (first | exact (Kd.C_below HR0_1.out HB.out) | (with_reducible refine Kd.C_alloc ?_ _) | (with_reducible refine Kd.C_drewN ?_ _) | (with_reducible refine Kd.C_drew ?_))); (case side2 => exact HC0_1.out); rintro e w81 ⟨rfl, hb⟩; refine ⟨_, rfl, ?_⟩; have n0_ := Aside0.mk (blk_below (g := gb148) (o := .cells #[.int .i64 a0_0, .slice A0_1 l0_1.length c0_1] 24 (0, 0)) (by (with_reducible repeat (first | refine blk_drewN ?_ _ | refine blk_drew ?_ | refine blk_alloc ?_ _)); exact BK148.out) hb); have n1_ := Aside0.mk (blk_below (g := gb149) (o := .cells #[.int .i64 0, .slice none 0 0] 24 (0, 0)) (by (with_reducible repeat (first | refine blk_drewN ?_ _ | refine blk_drew ?_ | refine blk_alloc ?_ _)); exact BK149.out) hb); have n2_ := Aside0.mk (below_step (by repeat (first | (with_reducible first | exact HB.out | apply below_alloc | apply pw_below_drewN | apply below_drew1 | refine below_set ?_ GE148.out | refine below_set ?_ GE149.out) | exact HB.out)) hb); clear BK148; clear BK149; clear HB; have BK148 := n0_; have BK149 := n1_; have HB := n2_; clear n0_ n1_ n2_; (try clear hb); (try clear hb2); (try clear hk); (try clear hi); have hcz82_0 : w81.cell? ⟨gb149, 0, none⟩ = some (.int .i64 0) := (blk_cell BK149.out 0).trans rfl; have hcz82_1 : w81.cell? ⟨gb149, 1, none⟩ = some (.slice none 0 0) := (blk_cell BK149.out 1).trans rfl; have hfz82_0 := blk_frozen BK149.out 0; have hfz82_1 := blk_frozen BK149.out 1))
    refine bodyPost_ret (results_ctt rfl _ _ gb149 24 #[.int .i64 0, .slice none 0 0] (0, 0) _ rfl (by (with_reducible repeat (first | refine blk_drewN ?_ _ | refine blk_drew ?_ | refine blk_alloc ?_ _)); refine blk_put (cs := #[.int .i64 0, .slice none 0 0]) ?_ 1 _ rfl; (with_reducible repeat (first | refine blk_drewN ?_ _ | refine blk_drew ?_ | refine blk_alloc ?_ _)); refine blk_put (cs := #[.int .i64 0, .slice none 0 0]) ?_ 0 _ rfl; (with_reducible repeat (first | refine blk_drewN ?_ _ | refine blk_drew ?_ | refine blk_alloc ?_ _)); exact BK149.out) Tryd.underlying24 rfl (by kernel_rfl)) rfl ?_
    exact ⟨_, by first | rfl | (simp [errW_none, errW_some] <;> rfl) | (simp [*, errW_none, errW_some] <;> rfl), by first | exact Kd.R_nil _ _ _ _ _ | exact Kd.N_nil _ _ _ _ _ | exact Kd.V_nil _ _ _ _ _ | exact Kd.Q_nil _ _ _ _ _ | exact Kd.S_nil _ _ _ _ _, by repeat (first | (with_reducible first | exact HB.out | apply below_alloc | apply pw_below_drewN | apply below_drew1 | refine below_set ?_ GE148.out | refine below_set ?_ GE149.out) | exact HB.out)⟩
end Go.Proofs.YtlghmadoogblcaaDoor.PW
end
section
namespace Go.Proofs.YtlghmadoogblcaaDoor.Boxes
open Go.RowKit Go.Proofs.YtlghmadoogblcaaDoorW.PrintWords Go.Proofs.YtlghmadoogblcaaDoorW.PrintLast Go.Proofs.YtlghmadoogblcaaDoorW.PrintMore Go.Proofs.YtlghmadoogblcaaDoor.PW
set_option linter.unusedVariables false
theorem store31 {P : Program} {ops : Array Oper} {rest : List Oper} {o : Oper} {a : Act} {Q : Exit → Act → World → Prop} {W0 W : World} {x y c0 c1 : Value} {g : Nat} {t : TypeId} (hgd : o.guard = none) (hd : o.dst = none)
    (hrun : (execOp a.eval o).run P W = .ok .skip ((W.setCell ⟨g, 0, none⟩ x).setCell ⟨g, 1, none⟩ y)) (hB : Below W0.heap.size W0 W) (hg : W0.heap.size ≤ g) (hb : W.heap[g]? = some (.cells #[c0, c1] t (0, 0)))
    (h : ∀ w2, w2.heap[g]? = some (.cells #[x, y] t (0, 0)) → (∀ g', g' ≠ g → w2.heap[g']? = W.heap[g']?) → Below W0.heap.size W0 w2 → wpList P ops Q rest a w2) : wpList P ops Q (o :: rest) a W := by
  refine wpList_plain hgd fun K hK => ?_
  have hp : a.put o.dst undef = a := by rw [hd]; rfl
  have key := hK a _ (h _ (blk_put (blk_put hb 0 x rfl) 1 y rfl) (fun g' hne => (Below.heap_setCell _ _ _ _ hne).trans (Below.heap_setCell _ _ _ _ hne)) (below_set (below_set hB hg) hg))
  unfold Oper.wp
  rw [hrun]
  rw [← hp] at key
  exact key
end Go.Proofs.YtlghmadoogblcaaDoor.Boxes
end
section
namespace Go.Proofs.YtlghmadoogblcaaDoor.OnesPlain
set_option maxRecDepth 100000
def ones (x : Nat) : List Nat := (List.range 64).filter (fun i => x.testBit i)
theorem ones_zero : ones 0 = [] := by simp [ones]
theorem low_bit : ∀ (n x : Nat), x < 2 ^ n → x ≠ 0 → ∃ t q, t < n ∧ x = 2 ^ t * (2 * q + 1)
  | 0, x, h, h0 => by simp at h; omega
  | n + 1, x, h, h0 => by
    by_cases e : x % 2 = 1
    · exact ⟨0, x / 2, by omega, by simp; omega⟩
    · obtain ⟨t, q, ht, hx⟩ := low_bit n (x / 2) (by rw [Nat.pow_succ] at h; omega) (by omega)
      refine ⟨t + 1, q, by omega, ?_⟩
      rw [Nat.pow_succ, Nat.mul_comm (2 ^ t) 2, Nat.mul_assoc, ← hx]
      omega
theorem bit_x (t q i : Nat) : (2 ^ t * (2 * q + 1)).testBit i = (decide (i = t) || (decide (t < i) && q.testBit (i - t - 1))) := by
  rw [Nat.testBit_two_pow_mul]
  by_cases h : t ≤ i
  · by_cases e : i = t
    · subst e; simp
    · have e2 : i - t = (i - t - 1) + 1 := by omega
      have h3 : t < i := by omega
      rw [e2, Nat.testBit_succ, show (2 * q + 1) / 2 = q by omega]
      simp [h, e, h3]
  · have h3 : ¬ t < i := by omega
    have h4 : ¬ i = t := by omega
    simp [h, h3, h4]
theorem bit_pred (t q i : Nat) : (2 ^ t * (2 * q + 1) - 1).testBit i = (decide (i < t) || (decide (t < i) && q.testBit (i - t - 1))) := by
  have hp : 0 < 2 ^ t := Nat.pow_pos (by omega)
  have e : 2 ^ t * (2 * q + 1) - 1 = 2 ^ t * (2 * q) + (2 ^ t - 1) := by
    rw [Nat.mul_add, Nat.mul_one]; omega
  rw [e, Nat.testBit_two_pow_mul_add _ (by omega)]
  by_cases h : i < t
  · rw [if_pos h, Nat.testBit_two_pow_sub_one]
    simp [h]
  · rw [if_neg h]
    by_cases e : i = t
    · subst e; simp
    · have e2 : i - t = (i - t - 1) + 1 := by omega
      have h3 : t < i := by omega
      rw [e2, Nat.testBit_succ, show 2 * q / 2 = q by omega]
      simp [h, h3]
theorem range_at (n t : Nat) (h : t < n) : List.range n = List.range t ++ t :: (List.range (n - 1 - t)).map (t + 1 + ·) := by
  apply List.ext_getElem
  · rw [List.length_append, List.length_cons, List.length_map, List.length_range, List.length_range, List.length_range]; omega
  · intro i h1 h2
    rw [List.getElem_range]
    by_cases h : i < t
    · rw [List.getElem_append_left (by simpa using h), List.getElem_range]
    · rw [List.getElem_append_right (by simpa using h)]
      by_cases e : i = t
      · have e2 : i - t = 0 := by omega
        simp only [List.length_range, e2, List.getElem_cons_zero]
        exact e
      · obtain ⟨k, hk⟩ : ∃ k, i - t = k + 1 := ⟨i - t - 1, by omega⟩
        simp only [List.length_range, hk, List.getElem_cons_succ, List.getElem_map, List.getElem_range]
        omega
theorem ones_step (x : Nat) (hx : x < 18446744073709551616) (h0 : x ≠ 0) :
    ∃ t, t < 64 ∧ ones x = t :: ones (x &&& (x - 1)) ∧ x &&& (18446744073709551616 - x) = 2 ^ t ∧ x.testBit t = true := by
  obtain ⟨t, q, ht, rfl⟩ := low_bit 64 x hx h0
  have hand : ∀ i, (2 ^ t * (2 * q + 1) &&& (2 ^ t * (2 * q + 1) - 1)).testBit i = (decide (t < i) && q.testBit (i - t - 1)) := by
    intro i
    rw [Nat.testBit_and, bit_x, bit_pred]
    by_cases h : i < t
    · have : ¬ t < i := by omega
      have : ¬ i = t := by omega
      simp [*]
    · by_cases e : i = t
      · subst e; simp
      · have : t < i := by omega
        simp [*]
  refine ⟨t, ht, ?_, ?_, by rw [bit_x]; simp⟩
  · unfold ones
    have hr := range_at 64 t ht
    rw [hr, List.filter_append, List.filter_append, List.filter_cons, List.filter_cons, bit_x, hand]
    have n1 : (List.range t).filter (fun i => (2 ^ t * (2 * q + 1)).testBit i) = [] := by
      rw [List.filter_eq_nil_iff]
      intro i hi
      have := List.mem_range.1 hi
      rw [bit_x]
      have : ¬ t < i := by omega
      have : ¬ i = t := by omega
      simp [*]
    have n2 : (List.range t).filter (fun i => (2 ^ t * (2 * q + 1) &&& (2 ^ t * (2 * q + 1) - 1)).testBit i) = [] := by
      rw [List.filter_eq_nil_iff]
      intro i hi
      have := List.mem_range.1 hi
      rw [hand]
      have : ¬ t < i := by omega
      simp [*]
    rw [n1, n2]
    simp only [decide_true, Bool.true_or, if_true, List.nil_append, Nat.lt_irrefl, decide_false, Bool.false_and, if_false, Bool.false_eq_true]
    congr 1
    apply List.filter_congr
    intro i hi
    obtain ⟨j, _, rfl⟩ := List.mem_map.1 hi
    rw [bit_x, hand]
    have : ¬ t + 1 + j = t := by omega
    simp [this]
  · apply Nat.eq_of_testBit_eq
    intro i
    have hs : 18446744073709551616 - 2 ^ t * (2 * q + 1) = 2 ^ 64 - ((2 ^ t * (2 * q + 1) - 1) + 1) := by
      have : (2:Nat) ^ 64 = 18446744073709551616 := by decide
      omega
    have hb : 2 ^ t * (2 * q + 1) - 1 < 2 ^ 64 := by
      have : (2:Nat) ^ 64 = 18446744073709551616 := by decide
      omega
    rw [Nat.testBit_and, hs, Nat.testBit_two_pow_sub_succ hb, bit_x, bit_pred, Nat.testBit_two_pow]
    by_cases h : i < t
    · have : ¬ t < i := by omega
      have : ¬ i = t := by omega
      have : ¬ t = i := by omega
      simp [*]
    · by_cases e : i = t
      · subst e; simp [ht]
      · have : t < i := by omega
        have : ¬ t = i := by omega
        simp [*]
        intro a _
        exact a
end Go.Proofs.YtlghmadoogblcaaDoor.OnesPlain
end
section
namespace Go.Proofs.YtlghmadoogblcaaDoorW.PrintWords
open Go.ChangeShapes Go.WideShapes
end Go.Proofs.YtlghmadoogblcaaDoorW.PrintWords
end
section
namespace Go.Proofs.YtlghmadoogblcaaDoor.Tz
open Go.RowKit
set_option linter.unusedVariables false
def tab : List Int := [0, 1, 56, 2, 57, 49, 28, 3, 61, 58, 42, 50, 38, 29, 17, 4, 62, 47, 59, 36, 45, 43, 51, 22, 53, 39, 33, 30, 24, 18, 12, 5, 63, 55, 48, 27, 60, 41, 37, 16, 46, 35, 44, 21, 52, 32, 23, 11, 54, 26, 40, 15, 34, 20, 31, 10, 25, 14, 19, 9, 13, 8, 7, 6]
def Tab (w : World) : Prop := Lib.TabIs Tryd.prog w "math/bits.deBruijn64tab" .u8 tab
theorem gTab : Tryd.prog.globalNamed "math/bits.deBruijn64tab" = some 0 := by decide +kernel
theorem Tab.on {w w' : World} (h : Tab w) (hb : Below w.heap.size w w') : Tab w' := by
  unfold Tab at h ⊢
  exact Lib.tabBelow_of_tabIs h _ hb
theorem tab_at : ∀ t : Fin 64, tab.getD ((2 ^ t.val * 285870213051353865) % 18446744073709551616 / 288230376151711744) 0 = (t.val : Int) := by decide +kernel
set_option maxHeartbeats 1000000 in
theorem tz (x : Nat) (hx : x < 18446744073709551616) (h0 : x ≠ 0) (w : World) (hT : Tab w) : ∃ t, t < 64 ∧ OnesPlain.ones x = t :: OnesPlain.ones (x &&& (x - 1)) ∧ x.testBit t = true ∧
    Calls Tryd.prog 35 #[.int .u64 (x : Int)] w fun e w' => e = .returned (.int .i64 (t : Int)) ∧ w' = w := by
  obtain ⟨t, ht, e1, e2, e3⟩ := OnesPlain.ones_step x hx h0
  refine ⟨t, ht, e1, e3, ?_⟩
  have hneg : IntKind.u64.wrap (-(x : Int)) = ((18446744073709551616 - x : Nat) : Int) := by
    simp [IntKind.wrap, IntKind.signed, IntKind.bits]
    omega
  have hand : Go.bits .and .u64 (x : Int) ((18446744073709551616 - x : Nat) : Int) = ((2 ^ t : Nat) : Int) := by
    rw [← e2]
    have hlt : x &&& (18446744073709551616 - x) < 18446744073709551616 := Nat.lt_of_le_of_lt Nat.and_le_left hx
    show IntKind.u64.wrap ((BitVec.ofInt 64 (x : Int) &&& BitVec.ofInt 64 ((18446744073709551616 - x : Nat) : Int)).toNat : Int) = _
    rw [BitVec.toNat_and, BitVec.ofInt_natCast, BitVec.ofInt_natCast, BitVec.toNat_ofNat, BitVec.toNat_ofNat, Nat.mod_eq_of_lt (by omega), Nat.mod_eq_of_lt (by omega)]
    simp [IntKind.wrap, IntKind.signed, IntKind.bits]
    omega
  obtain ⟨I, hI⟩ : ∃ I, (2 ^ t * 285870213051353865) % 18446744073709551616 / 288230376151711744 = I := ⟨_, rfl⟩
  have hI64 : I < 64 := by omega
  obtain ⟨P, hP⟩ : ∃ P : Nat, 2 ^ t = P := ⟨_, rfl⟩
  have hidx : IntKind.u64.wrap ((P : Int) * 285870213051353865) / 288230376151711744 = (I : Int) := by
    rw [← hI, ← hP]
    simp [IntKind.wrap, IntKind.signed, IntKind.bits]
  have hcell : w.cell? ⟨0, I, none⟩ = some (.int .u8 (t : Int)) := by
    have h := Lib.TabIs.cell hT gTab I (by simpa [tab] using hI64)
    rw [← hI, tab_at ⟨t, ht⟩] at h
    rw [← hI]
    exact h
  rw [hP] at hand
  have hx0 : ((x : Int) == 0) = false := beq_eq_false_iff_ne.2 (by omega)
  go_enter Tryd.func35, Tryd.ntmps35
  go_wp2
  go_ret
  exact ⟨rfl, rfl⟩
end Go.Proofs.YtlghmadoogblcaaDoor.Tz
end
section
namespace Go.Proofs.YtlghmadoogblcaaDoor.Bits1
open Go Go.RowKit Go.Shelf Go.Proofs.YtlghmadoogblcaaDoor.OnesPlain Go.Proofs.YtlghmadoogblcaaDoor.Tz
attribute [local go_sem] Oper.semAt_some
set_option linter.unusedVariables false
def plc (Wf : Nat → Nat) : Nat → List Int
  | 0 => []
  | i + 1 => plc Wf i ++ (ones (Wf i)).map (fun t : Nat => (64 * (i : Int) + (t : Int)))
theorem and_pred (x : Nat) (hx : x < 18446744073709551616) (h0 : x ≠ 0) : Go.bits .and .u64 (x : Int) ((x : Int) - 1) = ((x &&& (x - 1) : Nat) : Int) := by
  rw [show (x : Int) - 1 = ((x - 1 : Nat) : Int) by omega]
  have hlt : x &&& (x - 1) < 18446744073709551616 := Nat.lt_of_le_of_lt Nat.and_le_left hx
  show IntKind.u64.wrap ((BitVec.ofInt 64 (x : Int) &&& BitVec.ofInt 64 ((x - 1 : Nat) : Int)).toNat : Int) = _
  rw [BitVec.toNat_and, BitVec.ofInt_natCast, BitVec.ofInt_natCast, BitVec.toNat_ofNat, BitVec.toNat_ofNat, Nat.mod_eq_of_lt (by omega), Nat.mod_eq_of_lt (by omega)]
  simp [IntKind.wrap, IntKind.signed, IntKind.bits]
  omega
theorem Tab.blk {w w' : World} (h : Tab w) (e : w'.heap[0]? = w.heap[0]?) : Tab w' := by
  unfold Tab Lib.TabIs World.var? at h ⊢
  rw [gTab] at h ⊢
  simp only [Option.bind_some] at h ⊢
  rw [e]
  exact h
def KpB (S : List Nat) (W W' : World) : Prop := ∀ k ∈ S, W'.heap[k]? = W.heap[k]?
theorem KpB.refl (S : List Nat) (W : World) : KpB S W W := fun _ _ => rfl
theorem KpB.trans {S : List Nat} {A B C : World} (h : KpB S A B) (k : KpB S B C) : KpB S A C := fun i hi => (k i hi).trans (h i hi)
theorem plc_mono (Wf : Nat → Nat) (k : Nat) : ∀ d, plc Wf k <+: plc Wf (k + d)
  | 0 => List.prefix_refl _
  | d + 1 => List.IsPrefix.trans (plc_mono Wf k d) (List.prefix_append _ _)
theorem plc_prefix (Wf : Nat → Nat) (L k : Nat) (h : k < L) (p : List Nat) (t : Nat) (rest : List Nat) (e : ones (Wf k) = p ++ t :: rest) :
    (plc Wf k ++ p.map (fun t : Nat => (64 * (k : Int) + (t : Int)))) ++ [64 * (k : Int) + (t : Int)] <+: plc Wf L := by
  obtain ⟨d, rfl⟩ : ∃ d, L = k + 1 + d := ⟨L - (k + 1), by omega⟩
  refine List.IsPrefix.trans ?_ (plc_mono Wf (k + 1) d)
  show _ <+: plc Wf k ++ (ones (Wf k)).map _
  rw [e, List.append_assoc]
  refine (List.prefix_append_right_inj _).2 ?_
  rw [List.map_append, List.map_cons]
  exact ⟨rest.map (fun t : Nat => (64 * (k : Int) + (t : Int))), by simp⟩
theorem ones_len (x : Nat) : (ones x).length ≤ 64 := by
  have := List.length_filter_le (fun i => x.testBit i) (List.range 64)
  rw [List.length_range] at this
  exact this
theorem plc_len (Wf : Nat → Nat) : ∀ k, (plc Wf k).length ≤ 64 * k
  | 0 => Nat.le_refl _
  | k + 1 => by
    show (plc Wf k ++ (ones (Wf k)).map _).length ≤ _
    rw [List.length_append, List.length_map]
    have := plc_len Wf k
    have := ones_len (Wf k)
    omega
set_option maxRecDepth 100000 in
set_option maxHeartbeats 2000000 in
theorem bits1 (n : Nat) (hn : 1 ≤ n) (l Bs Bh L cap : Nat) (Wf : Nat → Nat) (hL : L ≤ 1025) (hW : ∀ i, i < L → Wf i < 18446744073709551616) (J Jx : List Int → World → Prop)
    (hY : ∀ pre x W, J pre W → pre ++ [x] <+: plc Wf L → pre.length < 65600 → YieldAt Fence.wide (n - 1) Tryd.prog l #[.int .i64 x] W fun e W' =>
      (e = .returned (.bool true) ∧ J (pre ++ [x]) W' ∧ KpB [Bs, Bh, 0] W W') ∨ (e = .returned (.bool false) ∧ Jx (pre ++ [x]) W'))
    (W : World) (hBs : W.cell? ⟨Bs, 0, none⟩ = some (.slice (some ⟨Bh, 0, none⟩) L cap)) (hc : ∀ j, j < L → W.cell? ⟨Bh, j, none⟩ = some (.int .u64 (Wf j : Int))) (hT : Tab W) (h0 : J [] W) :
    CallsIn Fence.wide n Tryd.prog 34 #[.func (.yield l) #[] #[], .pointer (some ⟨Bs, 0, none⟩)] W fun e W' => (∃ v, e = .returned v) ∧
      ((∃ ys, ys = plc Wf L ∧ J ys W') ∨ (∃ pre, pre <+: plc Wf L ∧ Jx pre W')) := by
  refine callsIn_of_wp Tryd.func34 rfl trivial ?_ rfl
  simp only [Tryd.ntmps34, List.size_toArray, List.length_cons, List.length_nil, Nat.reduceAdd, Nat.reduceSub, Array.replicate_succ, Array.replicate_zero, List.push_toArray, List.append_toArray, List.nil_append, List.cons_append]
  gi_wp2
  gi_loopw [7] (fun i wr => ∃ k : Nat, k ≤ L ∧ i = .int .i64 k ∧ J (plc Wf k) wr ∧ KpB [Bs, Bh, 0] W wr)
    (fun i _ => L - (intOf i).toNat)
  case atStart => exact ⟨0, Nat.zero_le _, rfl, h0, KpB.refl _ _⟩
  case round =>
    obtain ⟨k, hk, rfl, hJs, hnx⟩ := hrel
    by_cases hlt : k < L
    · have hcx : wr.cell? ⟨Bh, k, none⟩ = some (.int .u64 (Wf k : Int)) := by
        have h := hc k hlt
        unfold World.cell? at h ⊢
        rw [hnx Bh (by simp)]
        exact h
      gi_wp2
      gi_loopw [4] (fun v wx => ∃ (p : List Nat) (cur : Nat), v = .int .u64 (cur : Int) ∧ cur < 18446744073709551616 ∧ ones (Wf k) = p ++ ones cur ∧ J (plc Wf k ++ p.map (fun t : Nat => (64 * (k : Int) + (t : Int)))) wx ∧ KpB [Bs, Bh, 0] W wx)
        (fun v _ => (ones (intOf v).toNat).length)
      case atStart => exact ⟨[], Wf k, rfl, hW k hlt, rfl, by simpa using hJs, hnx⟩
      case round =>
        obtain ⟨p, cur, rfl, hcur, hon, hJp, hkx⟩ := hrel
        by_cases h0c : cur = 0
        · subst h0c
          gi_wp2
          go_roundw
          case rel =>
            refine ⟨k + 1, by omega, by simp, ?_, hkx⟩
            rw [ones_zero, List.append_nil] at hon
            show J (plc Wf k ++ (ones (Wf k)).map _) _
            rw [hon]
            exact hJp
          case measure => simp [intOf]; omega
        · obtain ⟨t, ht, ho1, hbt, hcall⟩ := tz cur hcur h0c wr (Tab.blk hT (hkx 0 (by simp)))
          obtain ⟨fn, tmps, assign, body, hy, hR⟩ := hY _ (64 * (k : Int) + (t : Int)) wr hJp (plc_prefix Wf L k hlt p t (ones (cur &&& (cur - 1))) (by rw [hon, ho1])) (by
            have h1 := plc_len Wf k
            have h2 := ones_len (Wf k)
            rw [hon, ho1, List.length_append, List.length_cons] at h2
            rw [List.length_append, List.length_map]
            omega)
          gi_wp2_with (refine ⟨trivial, ?_⟩; gi_at_call 35; refine (callsIn_wide.2 hcall).mono ?_; rintro e w' ⟨rfl, rfl⟩)
          refine hR.mono ?_
          rintro e W3 (⟨rfl, hJ3, hk3⟩ | ⟨rfl, hJx3⟩)
          · gi_wp2
            go_roundw
            case rel =>
              refine ⟨p ++ [t], cur &&& (cur - 1), ?_, Nat.lt_of_le_of_lt Nat.and_le_left hcur, by rw [hon, ho1]; simp, ?_, hkx.trans hk3⟩
              · rw [and_pred cur hcur h0c]
              · rw [List.map_append, ← List.append_assoc]
                exact hJ3
            case measure =>
              rw [and_pred cur hcur h0c]
              simp only [intOf, Int.toNat_natCast]
              rw [ho1]
              simp
          · gi_wp2
            refine bodyPost_ret (results_none rfl _ _ _) rfl ?_
            refine ⟨⟨_, rfl⟩, .inr ⟨_, ?_, hJx3⟩⟩
            exact plc_prefix Wf L k hlt p t (ones (cur &&& (cur - 1))) (by rw [hon, ho1])
    · obtain rfl : k = L := by omega
      gi_wp2
      go_end0
      exact ⟨⟨_, rfl⟩, .inl ⟨_, rfl, hJs⟩⟩
set_option maxRecDepth 100000 in
set_option maxHeartbeats 2000000 in
theorem bits0 (n : Nat) (l Bs cap : Nat) (A : Option Addr) (J : List Int → World → Prop) (W : World) (hBs : W.cell? ⟨Bs, 0, none⟩ = some (.slice A 0 cap)) (h0 : J [] W) :
    CallsIn Fence.wide n Tryd.prog 34 #[.func (.yield l) #[] #[], .pointer (some ⟨Bs, 0, none⟩)] W fun e W' => (∃ v, e = .returned v) ∧ J [] W' := by
  refine callsIn_of_wp Tryd.func34 rfl trivial ?_ rfl
  simp only [Tryd.ntmps34, List.size_toArray, List.length_cons, List.length_nil, Nat.reduceAdd, Nat.reduceSub, Array.replicate_succ, Array.replicate_zero, List.push_toArray, List.append_toArray, List.nil_append, List.cons_append]
  gi_wp2
  gi_loopw [7] (fun i wr => i = .int .i64 0 ∧ J [] wr) (fun _ _ => 0)
  case atStart => exact ⟨rfl, h0⟩
  case round =>
    obtain ⟨rfl, hJs⟩ := hrel
    gi_wp2
    go_end0
    exact ⟨⟨_, rfl⟩, hJs⟩
abbrev Pl (Wf : Nat → Nat) (L : Nat) := { x : Int // x ∈ plc Wf L }
theorem stops (n : Nat) (hn : 1 ≤ n) (Bs Bh L cap : Nat) (A : Option Addr) (Wf : Nat → Nat) (hL : L ≤ 1025) (hW : ∀ i, i < L → Wf i < 18446744073709551616) (w : World) (hBl : Bs < w.heap.size) (hBs : w.cell? ⟨Bs, 0, none⟩ = some (.slice A L cap)) (hA : 0 < L → A = some ⟨Bh, 0, none⟩ ∧ Bh < w.heap.size)
    (hc : ∀ j, j < L → w.cell? ⟨Bh, j, none⟩ = some (.int .u64 (Wf j : Int))) (hT : Tab w) :
    SeqStopsK Fence.wide n Tryd.prog 34 #[.pointer (some ⟨Bs, 0, none⟩)] (fun x : Pl Wf L => #[Value.int .i64 x.1]) (KpB [Bs, Bh, 0]) (fun ys => ys.map (·.1) = plc Wf L) (fun pre => pre.map (·.1) <+: plc Wf L) 65600 w := fun l J Jx W hb _ _ hY h0 => by
  have hBs' := (hb.cell (p := ⟨Bs, 0, none⟩) hBl).trans hBs
  by_cases h : 0 < L
  · obtain ⟨rfl, hBh⟩ := hA h
    refine (bits1 n hn l Bs Bh L cap Wf hL hW (fun pre W => ∃ ps : List (Pl Wf L), ps.map (·.1) = pre ∧ J ps W) (fun pre W => ∃ ps : List (Pl Wf L), ps.map (·.1) = pre ∧ Jx ps W) ?_ W hBs' (fun j hj => (hb.cell (p := ⟨Bh, j, none⟩) hBh).trans (hc j hj)) (hT.on hb) ⟨[], rfl, h0⟩).mono ?_
    · rintro pre x W2 ⟨ps, rfl, hJ⟩ hpx hlen
      have hx : x ∈ plc Wf L := hpx.subset (by simp)
      obtain ⟨fn, tmps, assign, body, hy, hR⟩ := hY ps ⟨x, hx⟩ W2 hJ (by simpa using hlen)
      refine ⟨fn, tmps, assign, body, hy, hR.mono ?_⟩
      rintro e W3 (⟨rfl, hJ3, hk⟩ | ⟨rfl, hJ3⟩)
      · exact .inl ⟨rfl, ⟨ps ++ [⟨x, hx⟩], by simp, hJ3⟩, hk⟩
      · exact .inr ⟨rfl, ⟨ps ++ [⟨x, hx⟩], by simp, hJ3⟩⟩
    · rintro e W2 ⟨hv, (⟨ys, rfl, ps, e1, hj⟩ | ⟨pre, hp, ps, rfl, hj⟩)⟩
      · exact ⟨hv, .inl ⟨ps, e1, hj⟩⟩
      · exact ⟨hv, .inr ⟨ps, hp, hj⟩⟩
  · obtain rfl : L = 0 := by omega
    exact (bits0 n l Bs cap A (fun pre W => J [] W) W hBs' h0).mono fun e W' ⟨he, hj⟩ => ⟨he, .inl ⟨[], rfl, hj⟩⟩
end Go.Proofs.YtlghmadoogblcaaDoor.Bits1
end
section
namespace Go.Proofs.YtlghmadoogblcaaDoor.Bx
open Go.RowKit Go.Proofs.YtlghmadoogblcaaDoorW.PrintWords
def Bx (w : World) (b : Nat) (vs : Array Value) : Prop := ∃ ty, w.heap[b]? = some (.cells vs ty (0, 0))
theorem Bx.lt {w : World} {b : Nat} {vs : Array Value} (h : Bx w b vs) : b < w.heap.size := by
  obtain ⟨_, h⟩ := h
  exact blk_lt h
theorem Bx.c {w : World} {b : Nat} {vs : Array Value} (h : Bx w b vs) (j : Nat) (v : Value) (e : vs[j]? = some v) : w.cell? ⟨b, j, none⟩ = some v := by
  obtain ⟨_, h⟩ := h
  exact (blk_cell h j).trans e
theorem Bx.fz {w : World} {b : Nat} {vs : Array Value} (h : Bx w b vs) (j : Nat) : w.frozen? ⟨b, j, none⟩ = false := by
  obtain ⟨_, h⟩ := h
  exact blk_frozen h j
theorem Bx.on {w w1 : World} {b : Nat} {vs : Array Value} (h : Bx w b vs) (hb : Below w.heap.size w w1) : Bx w1 b vs := by
  have l := h.lt
  obtain ⟨t, h⟩ := h
  exact ⟨t, (hb.block b l).trans h⟩
theorem Bx.alloc {w : World} {b : Nat} {vs : Array Value} (h : Bx w b vs) (o : Obj) : Bx (w.alloc o) b vs := h.on (below_alloc (Below.refl _ _) o)
theorem Bx.drewN {w : World} {b : Nat} {vs : Array Value} (h : Bx w b vs) (n : Nat) : Bx (w.drewN n) b vs := h.on (pw_below_drewN (Below.refl _ _) n)
theorem Bx.new (w : World) (vs : Array Value) (t : TypeId) : Bx (w.alloc (.cells vs t)) w.heap.size vs := ⟨t, blk_new w _⟩
theorem Bx.new2 (w : World) (o : Obj) (vs : Array Value) (t : TypeId) : Bx ((w.alloc o).alloc (.cells vs t)) (w.heap.size + 1) vs := by
  have h := Bx.new (w.alloc o) vs t
  rwa [show (w.alloc o).heap.size = w.heap.size + 1 by simp] at h
theorem Bx.set {w : World} {b : Nat} {vs vs' : Array Value} (h : Bx w b vs) (j : Nat) (v : Value) (e : vs.setIfInBounds j v = vs') : Bx (w.setCell ⟨b, j, none⟩ v) b vs' := by
  obtain ⟨t, h⟩ := h
  exact ⟨t, blk_put h j v e⟩
theorem Bx.far {w : World} {b : Nat} {vs : Array Value} (h : Bx w b vs) {p : Addr} (hn : b ≠ p.block) (v : Value) : Bx (w.setCell p v) b vs := by
  obtain ⟨t, h⟩ := h
  exact ⟨t, blk_far h hn v⟩
end Go.Proofs.YtlghmadoogblcaaDoor.Bx
end
section
namespace Go.Proofs.YtlghmadoogblcaaDoor.BitsAll
open Go Go.RowKit Go.Proofs.YtlghmadoogblcaaDoorW.PrintWords Go.Proofs.YtlghmadoogblcaaDoorW.PrintLast Go.Proofs.YtlghmadoogblcaaDoorW.PrintMore Go.Proofs.YtlghmadoogblcaaDoor.PW Go.Proofs.YtlghmadoogblcaaDoor.Bits1 Go.Proofs.YtlghmadoogblcaaDoor.Bx
set_option linter.unusedVariables false
set_option linter.unusedSimpArgs false
def Held (n0 : Nat) (e : Ending) (xs : List Int) (W : World) : Prop := ∃ Bs A c, e = .returned (.func (.func 34) #[] #[.pointer (some ⟨Bs, 0, none⟩)]) ∧ n0 ≤ Bs ∧ Bx W Bs #[.slice A xs.length c] ∧ W.ownsRow n0 58 1 (.slice A xs.length c) xs.length (nums .u64 xs)
theorem own_of_R {W : World} {base : Nat} {ok : Nat → Prop} {v : Value} {xs : List Int} (h : Kd.R (Kd.int .u64) 58 W base ok v xs) : W.ownsRow base 58 1 v xs.length (nums .u64 xs) := Kd.own_of_R (enc := Value.int .u64) (h1 := fun _ => rfl) h
theorem chain_ {w w1 w2 : World} (h : Below w.heap.size w w1) (k : Below w1.heap.size w1 w2) : Below w.heap.size w w2 := below_then h h.size k
theorem ty_of {W : World} {g : Nat} {cs : Array Value} {t : TypeId} (h : W.heap[g]? = some (.cells cs t (0, 0))) (t' : TypeId) (h' : W.heap[g]? = some (.cells cs t' (0, 0))) : t' = t := by
  rw [h] at h'
  injection h' with h'
  injection h' with _ h'
  exact h'.symm
theorem own_set_other {W : World} {base g n i : Nat} {e t : TypeId} {v u : Value} {xs : List Value} {c : Array Value} {fz : Nat × Nat} (h : W.ownsRow base e 1 v n xs) (hg : W.heap[g]? = some (.cells c t fz)) (hne : e ≠ t) : (W.setCell ⟨g, i, none⟩ u).ownsRow base e 1 v n xs := by
  refine own_move h (fun k hk => Below.heap_setCell _ ⟨g, i, none⟩ _ _ ?_)
  rintro rfl
  obtain ⟨c', hc⟩ := own_typed h k hk
  rw [hg] at hc
  injection hc with hc
  injection hc with _ hc
  exact hne hc.symm
theorem field_row (x y : Value) (w : World) : (Instr.field 24 (.agg #[x, y]) 1).run Tryd.prog w = .ok y w := by kernel_rfl
set_option maxHeartbeats 2000000 in
set_option maxRecDepth 100000 in
theorem bits_ok (a0 : Int) (A0 : Option Addr) (c0 : Nat) (l0 : List Int) (m : Int) (xs : List Int) (w : World) (hr : Kd.C (Kd.int .u64) w A0 l0.length l0) (hc : l0.length ≤ c0) (hV : words_Valid.f a0 l0 = some true) (hC : words_clone.f a0 l0 = some (m, xs)) :
    Calls Tryd.prog 12 #[.agg #[.int .i64 a0, .slice A0 l0.length c0]] w fun e w' => Held w.heap.size e xs w' ∧ Below w.heap.size w w' := by
  have HR := Aside0.mk hr; have HV := Aside0.mk hV; have HC := Aside0.mk hC
  clear hr hV hC
  have hu := Tryd.underlying24
  have hu2 := Tryd.underlying22
  have hfr := field_row
  go_enter Tryd.func12, Tryd.ntmps12
  go_wp2_with (first
    | (go_at_call 29; (with_reducible refine (words_Valid.calls a0 A0 c0 l0 true _ ?s1 hc HV.out).mono ?_); (case s1 => exact Kd.C_alloc HR.out _); rintro e w1 ⟨rfl, hb⟩; have HB := Aside0.mk hb; have hbx := (Bx.new w #[.int .i64 a0, .slice A0 l0.length c0] 24).on hb; have b0_ := hbx.c 0 _ rfl; have b1_ := hbx.c 1 _ rfl; clear hb)
    | (go_at_call 33; (with_reducible refine (words_clone.calls a0 A0 c0 l0 m xs _ ?s2 hc HC.out).mono ?_); (case s2 => exact Kd.C_below (Kd.C_alloc HR.out _) HB.out); clear b0_ b1_; rintro e w2 ⟨v, rfl, hv, hb⟩; have HB2 := Aside0.mk hb; have ho := own_of_R hv; obtain ⟨A2, c2, rfl⟩ := own_slice ho; have HO := Aside0.mk ho; clear hb hv ho)
    | ((with_reducible refine gate_dst (N := 3) rfl ?_); refine box_event ?hg (N := 3) ?hd (cs := #[.slice none 0 0]) (t := 22) ?hr ?_; (case hd => rfl); (case hg => rfl); (case hr => first | (go_simp; done) | (go_simp; rfl)); intro gb hg w3 hbox hb; have HB3 := Aside0.mk hb; have HX := Aside0.mk (show Bx w3 gb #[.slice none 0 0] from ⟨_, hbox⟩); have hty := ty_of hbox; have HG := Aside0.mk hg; have b2_ := (show Bx w3 gb #[.slice none 0 0] from ⟨_, hbox⟩).c 0 _ rfl; have z2_ := (show Bx w3 gb #[.slice none 0 0] from ⟨_, hbox⟩).fz 0; clear hb hbox hg))
  refine bodyPost_ret (results_tmp (t := 2) rfl _ _ _) rfl ?_
  have hB0 := below_alloc (Below.refl w.heap.size w) (.cells #[.int .i64 a0, .slice A0 l0.length c0] 24)
  have hB1 := chain_ hB0 HB.out
  have hB2 := chain_ hB1 HB2.out
  have hB3 := chain_ hB2 HB3.out
  have hg : w.heap.size ≤ gb := by have h := HG.out; have := hB2.size; omega
  obtain ⟨t, hx⟩ := HX.out
  have ht : t = 22 := hty t hx
  subst ht
  exact ⟨⟨gb, A2, c2, rfl, hg, HX.out.set 0 _ rfl, own_set_other (own_weaken (pw_own_below HO.out HB3.out) hB1.size) hx (by decide)⟩, below_set hB3 hg⟩
end Go.Proofs.YtlghmadoogblcaaDoor.BitsAll
end
section
namespace Go.Proofs.YtlghmadoogblcaaDoor.Turned
open Go Go.RowKit Go.Shelf Go.Proofs.YtlghmadoogblcaaDoorW.PrintWords Go.Proofs.YtlghmadoogblcaaDoorW.PrintLast Go.Proofs.YtlghmadoogblcaaDoorW.PrintMore Go.Proofs.YtlghmadoogblcaaDoor.PW Go.Proofs.YtlghmadoogblcaaDoor.OnesPlain Go.Proofs.YtlghmadoogblcaaDoor.Tz Go.Proofs.YtlghmadoogblcaaDoor.Bits1 Go.Proofs.YtlghmadoogblcaaDoor.Bx Go.Proofs.YtlghmadoogblcaaDoor.BitsAll
attribute [local go_sem] Oper.semAt_some
set_option linter.unusedVariables false
set_option linter.unusedSimpArgs false
def wf (l : List Int) (i : Nat) : Nat := (l.getD i 0).toNat
def setb (ts : List Int) (k : Nat) : List Int := ts.set (k / 64) (Go.bits .or .u64 (ts.getD (k / 64) 0) ((2 : Int) ^ (k % 64)))
def turnTo (a0 : Int) (zs : List Int) (pre : List Int) : List Int := pre.foldl (fun ts x => setb ts (a0 - 1 - x).toNat) zs
theorem turnTo_snoc (a0 : Int) (zs pre : List Int) (x : Int) : turnTo a0 zs (pre ++ [x]) = setb (turnTo a0 zs pre) (a0 - 1 - x).toNat := by
  unfold turnTo
  rw [List.foldl_append]
  rfl
theorem setb_len (ts : List Int) (k : Nat) : (setb ts k).length = ts.length := by simp [setb]
theorem turnTo_len (a0 : Int) (zs : List Int) (pre : List Int) : (turnTo a0 zs pre).length = zs.length := by
  unfold turnTo
  induction pre generalizing zs with
  | nil => rfl
  | cons x p ih => rw [List.foldl_cons, ih, setb_len]
theorem Bx.kept {W W' : World} {row : Option Nat} {b : Nat} {vs : Array Value} (h : Bx W b vs) (hg : W.grownBy W' row) (hr : ∀ r, row = some r → ∃ o : Obj, W.heap[r]? = some o ∧ o.isCells = false) : Bx W' b vs := by
  obtain ⟨t, h⟩ := h
  refine ⟨t, blk_grown h hg ?_⟩
  intro e
  obtain ⟨o, ho, hc⟩ := hr b e.symm
  rw [h] at ho
  cases ho
  simp [Obj.isCells] at hc
theorem own_kept {W W' : World} {row : Option Nat} {base : Nat} {v : Value} {n : Nat} {xs : List Value} (h : W.ownsRow base 58 1 v n xs) (hg : W.grownBy W' row) (hr : ∀ r, row = some r → ∃ o : Obj, W.heap[r]? = some o ∧ o.isCells = false) : W'.ownsRow base 58 1 v n xs := by
  refine own_move h (fun k hk => ?_)
  obtain ⟨c, hc⟩ := own_typed h k hk
  refine (blk_grown hc hg ?_).trans hc.symm
  intro e
  obtain ⟨o, ho, hcc⟩ := hr k e.symm
  rw [hc] at ho
  cases ho
  simp [Obj.isCells] at hcc
theorem cell_lt {w : World} {p : Addr} {v : Value} (h : w.cell? p = some v) : p.block < w.heap.size := by
  unfold World.cell? at h
  split at h
  · rename_i o ho
    exact (Array.getElem?_eq_some_iff.1 ho).1
  · cases h
theorem nums_at_ (l : List Int) (j : Nat) (h : j < l.length) : (nums .u64 l)[j]? = some (.int .u64 (l.getD j 0)) := by
  simp [nums, List.getD_eq_getElem?_getD, List.getElem?_eq_getElem h]
theorem own_frozen {w : World} {base g n m c : Nat} {xs : List Value} (h : w.ownsRow base 58 1 (.slice (some ⟨g, 0, none⟩) m c) n xs) (j : Nat) : w.frozen? ⟨g, j, none⟩ = false := by
  rcases h.2 with ⟨h', _⟩ | ⟨g', cap', cur, h', _, hh, _⟩
  · cases h'
  · have : g = g' := by injection h' with h'; injection h' with h'; injection h' with h'
    subst this
    simp [World.frozen?, hh]
theorem wpIn_round (F : Fence) (l n : Nat) (P : Program) (o : Oper) (a : Act) (w : World) (K : Act → World → Prop) (Q : Exit → Act → World → Prop) (hro : F.round = none) (hd : ∀ c, o.op ≠ .defer c) : o.wpIn (F.inRound l) n P a w K Q = o.wpIn F n P a w K Q := by
  unfold Oper.wpIn
  rw [hro, Fence.inRound_round, Oper.semAt_none, Oper.semAt_some l _ _ hd]
  rfl
theorem wpAny_round (F : Fence) (l n : Nat) (P : Program) (ops : Array Oper) (Q : Exit → Act → World → Prop) (hro : F.round = none) (hd : ∀ (i : Nat) (o : Oper), ops[i]? = some o → ∀ c, o.op ≠ .defer c) :
    ∀ (fuel : Nat) (listed : Array Bool) (a : Act) (w : World), wpAnyIn (F.inRound l) n P .any ops Q fuel listed a w = wpAnyIn F n P .any ops Q fuel listed a w
  | 0, _, _, _ => rfl
  | fuel + 1, listed, a, w => by
    unfold wpAnyIn
    have ih : wpAnyIn (F.inRound l) n P .any ops Q fuel = wpAnyIn F n P .any ops Q fuel := by
      funext a b c
      exact wpAny_round F l n P ops Q hro hd fuel a b c
    rw [ih]
    refine congrArg _ ?_
    refine forall_congr fun i => forall_congr fun hi => ?_
    unfold wpOpIn
    cases e : ops[i]? with
    | none => rfl
    | some o =>
      show (if _ then _ else _) = (if _ then _ else _)
      split
      · exact wpIn_round F l n P o a w _ Q hro (hd i o e)
      · rfl
def noDefer (ops : Array Oper) : Bool := ops.all fun o => match o.op with | .defer _ => false | _ => true
theorem noDefer_spec {ops : Array Oper} (h : noDefer ops = true) (i : Nat) (o : Oper) (e : ops[i]? = some o) : ∀ c, o.op ≠ .defer c := by
  intro c hc
  unfold noDefer at h
  rw [Array.all_eq_true] at h
  obtain ⟨hi, e⟩ := Array.getElem?_eq_some_iff.1 e
  have h1 := h i hi
  rw [e, hc] at h1
  cases h1
theorem region_round {F : Fence} {l n id : Nat} {P : Program} {ops : Array Oper} {Q : Exit → Act → World → Prop} {a : Act} {w : World} (hm : P.follows .mixedOrders = true) (hro : F.round = none) (hd : noDefer ops = true)
    (h : wpAnyIn F n P .any ops Q ops.size (Array.replicate ops.size false) a w.drew) : (Code.region id ops true).wpIn (F.inRound l) n P Q a w := by
  refine wpIn_region_any hm ?_
  rw [wpAny_round F l n P ops Q hro (noDefer_spec hd)]
  exact h
theorem wrap_pow (t : Nat) (h : t < 64) : IntKind.u64.wrap ((2 : Int) ^ t) = (2 : Int) ^ t := by
  have h1 : (2 : Int) ^ t < 2 ^ 64 := Int.pow_lt_pow_of_lt (by decide) h
  have h0 : (0 : Int) < 2 ^ t := Int.pow_pos (by decide)
  simp [IntKind.wrap, IntKind.signed, IntKind.bits]
  omega
theorem tab_size {w : World} (h : Tab w) : 0 < w.heap.size := by
  have h0 := Lib.TabIs.cell h gTab 0 (by decide)
  exact cell_lt h0
theorem start (w w1 w2 : World) (o o' o'' : Obj) (h : Below ((w.alloc o).alloc o').heap.size ((w.alloc o).alloc o') w1) (h2 : Below w1.heap.size w1 w2) : Below w.heap.size w (w2.alloc o'') := by
  have a := below_alloc (below_alloc (Below.refl w.heap.size w) o) o'
  exact below_alloc (chain_ (chain_ a h) h2) o''
set_option maxHeartbeats 4000000 in
set_option maxRecDepth 100000 in
theorem turned_ok (a0 : Int) (A0 : Option Addr) (c0 : Nat) (l0 zs : List Int) (m : Int) (w : World) (hr : Kd.C (Kd.int .u64) w A0 l0.length l0) (hc : l0.length ≤ c0) (hV : words_Valid.f a0 l0 = some true) (hC : words_clone.f a0 l0 = some (m, l0)) (hZ : words_blank.f a0 = some (a0, zs))
    (hT : Tab w) (hn : 0 ≤ a0 ∧ a0 ≤ 65538) (hL : l0.length ≤ 1025) (hLz : zs.length = l0.length) (hL64 : a0 ≤ 64 * l0.length) (hU : ∀ i, i < l0.length → 0 ≤ l0.getD i 0 ∧ l0.getD i 0 < 18446744073709551616) (hP : ∀ x ∈ plc (wf l0) l0.length, 0 ≤ x ∧ x < a0) :
    Calls Tryd.prog 21 #[.agg #[.int .i64 a0, .slice A0 l0.length c0]] w fun e w' => ∃ v : Value, e = .returned (.tuple #[.agg #[.int .i64 a0, v], .int .i64 0]) ∧ w'.ownsRow w.heap.size 58 1 v l0.length (nums .u64 (turnTo a0 zs (plc (wf l0) l0.length))) ∧ Below w.heap.size w w' := by
  have HR := Aside0.mk hr; have HV := Aside0.mk hV; have HC := Aside0.mk hC; have HZ := Aside0.mk hZ; have HT := Aside0.mk hT
  clear hr hV hC hZ hT
  have hu := Tryd.underlying24
  have hu2 := Tryd.underlying22
  have hz := Tryd.zeroValue24
  refine (callsIn_wide (n := 3)).1 ?_
  refine callsIn_of_wp_marks Tryd.func21 rfl trivial ?_ rfl
  simp only [Tryd.ntmps21, List.size_toArray, List.length_cons, List.length_nil, Nat.reduceAdd, Nat.reduceSub, Array.replicate_succ, Array.replicate_zero, List.push_toArray, List.append_toArray, List.nil_append, List.cons_append]
  gi_wp2_with (first
    | (refine ⟨trivial, ?_⟩; gi_at_call 29; refine (callsIn_wide.2 (words_Valid.calls a0 A0 c0 l0 true _ ?s1 hc HV.out)).mono ?_; (case s1 => exact Kd.C_alloc (Kd.C_alloc HR.out _) _); rintro e w1 ⟨rfl, hb⟩; have HB := Aside0.mk hb; have hr1 := (((Bx.new w #[.int .i64 a0, .slice A0 l0.length c0] 24).alloc (.cells #[.int .i64 0, .slice none 0 0] 24)).on hb); have hq1 := ((Bx.new2 w (.cells #[.int .i64 a0, .slice A0 l0.length c0] 24) #[.int .i64 0, .slice none 0 0] 24).on hb); have b0_ := hr1.c 0 _ rfl; clear hb)
    | (refine ⟨trivial, ?_⟩; gi_at_call 32; refine (callsIn_wide.2 (words_blank.calls a0 a0 zs _ HZ.out)).mono ?_; clear b0_; rintro e w2 ⟨v, rfl, hv, hb⟩; have ho := own_of_R hv; obtain ⟨A2, c2, rfl⟩ := own_slice ho; have HO := Aside0.mk ho; have HB2 := Aside0.mk hb; have hr2 := hr1.on hb; have hq2 := hq1.on hb; have b0_ := hr2.c 0 _ rfl; have b1_ := hr2.c 1 _ rfl; have lt_ := hr2.lt; have ne_ := Nat.ne_of_lt lt_; clear hb hv ho)
    | (refine ⟨trivial, ?_⟩; gi_at_call 12; refine (callsIn_wide.2 (bits_ok a0 A0 c0 l0 m l0 _ ?s3 hc HV.out HC.out)).mono ?_; (case s3 => exact Kd.C_below HR.out (start w w1 w2 _ _ _ HB.out HB2.out)); clear b0_ b1_; rintro e w4 ⟨⟨Bs, A3, c3, rfl, hge, hbs, hown⟩, hb⟩; have HB4 := Aside0.mk (chain_ (start w w1 w2 _ _ _ HB.out HB2.out) hb); have HBC := Aside0.mk hb; have hr4 := (hr2.alloc _).on hb; have hq4 := (hq2.alloc _).on hb; have hk4 := (Bx.new w2 #[.int .i64 a0, .slice A2 l0.length c2] 24).on hb; have HN := Aside0.mk hown; have HG := Aside0.mk hge; clear hb hown hge))
  have O4 := Aside0.mk (own_weaken (pw_own_below (pw_own_below HO.out (below_alloc (Below.refl _ _) _)) HBC.out) (below_alloc (below_alloc (Below.refl w.heap.size w) _) _ |> fun a => (chain_ a HB.out).size))
  rw [hLz] at O4
  have hL1 := O4.out
  obtain ⟨gw, hgw⟩ : ∃ gw, 0 < l0.length → A2 = some ⟨gw, 0, none⟩ ∧ w1.heap.size ≤ gw ∧ gw < w2.heap.size := by
    by_cases h0 : 0 < l0.length
    · obtain ⟨f, cp, e, hf⟩ := HO.out.form (show 0 < zs.length by omega)
      injection e with e1
      exact ⟨f, fun _ => ⟨e1, hf.1, hf.2⟩⟩
    · exact ⟨0, fun h => absurd h h0⟩
  have hsz : 0 < w4.heap.size := Nat.lt_of_le_of_lt (Nat.zero_le _) hr4.lt
  have hsz2 : w2.heap.size + 1 ≤ Bs := by simpa using HG.out
  obtain ⟨gh, hgl, hgh⟩ : ∃ gh, gh < w4.heap.size ∧ (0 < l0.length → A3 = some ⟨gh, 0, none⟩ ∧ w2.heap.size + 1 ≤ gh) := by
    by_cases h0 : 0 < l0.length
    · obtain ⟨f, cp, e, hf⟩ := HN.out.form h0
      injection e with e1
      exact ⟨f, hf.2, fun _ => ⟨e1, by simpa using hf.1⟩⟩
    · exact ⟨0, hsz, fun h => absurd h h0⟩
  have hcell : ∀ j, j < l0.length → w4.cell? ⟨gh, j, none⟩ = some (.int .u64 (wf l0 j : Int)) := by
    intro j hj
    obtain ⟨e, -⟩ := hgh (by omega)
    subst e
    have h := HN.out.cells (g := gh) rfl j (.int .u64 (l0.getD j 0)) (nums_at_ l0 j hj)
    rw [show (⟨gh, 0, none⟩ : Addr).add j = ⟨gh, j, none⟩ by cases j <;> simp [Addr.add]] at h
    rw [h]
    unfold wf
    rw [Int.toNat_of_nonneg (hU j hj).1]
  have hwf : ∀ i, i < l0.length → wf l0 i < 18446744073709551616 := fun i hi => by
    have := hU i hi
    unfold wf
    omega
  have ht0 : 0 < w.heap.size := tab_size HT.out
  refine wpIn_rangeFunc_ownF (α := Pl (wf l0) l0.length) rfl (by decide) (gf := 34) (lb := #[.pointer (some ⟨Bs, 0, none⟩)]) rfl trivial (enters_of Tryd.func34 (by kernel_rfl) rfl)
    (stops 2 (by decide) Bs gh l0.length c3 A3 (wf l0) hL hwf w4 hbs.lt (hbs.c 0 _ rfl) (fun h => ⟨(hgh h).1, hgl⟩) hcell (HT.out.on HB4.out)) (fun h k => KpB.trans h k) ?kb (Below.refl _ _) (fun _ => rfl)
    (fun pre W => (Bx W w.heap.size #[.int .i64 a0, .slice A0 l0.length c0] ∧ Bx W (w.heap.size + 1) #[.int .i64 0, .slice none 0 0] ∧ Bx W w2.heap.size #[.int .i64 a0, .slice A2 l0.length c2] ∧ W.ownsRow w.heap.size 58 1 (.slice A2 l0.length c2) l0.length (nums .u64 (turnTo a0 zs (pre.map (·.1))))) ∧ Below w.heap.size w W)
    (fun _ _ _ => False)
    (OwnFrom.and (Own.from (fun s A B row hs hg hr => ⟨Bx.kept hs.1 hg hr, Bx.kept hs.2.1 hg hr, Bx.kept hs.2.2.1 hg hr, own_kept hs.2.2.2 hg hr⟩) _) (ownFrom_below (Nat.le_refl _) HB4.out.size))
    (fun _ _ _ _ _ hs _ _ => hs)
    ⟨⟨hr4, hq4, hk4, O4.out⟩, HB4.out⟩
    (fun x => { tmps := #[.agg #[.int .i64 a0, .slice A0 l0.length c0], .pointer (some ⟨w.heap.size, 0, none⟩), .pointer (some ⟨w.heap.size + 1, 0, none⟩), .int .i64 0, .pointer (some ⟨w2.heap.size, 0, none⟩), .int .i64 x.1, undef, .agg #[.int .i64 a0, .slice A0 l0.length c0], .bool true, .bool false, undef, .pointer (some ⟨w.heap.size, 0, none⟩), .int .i64 a0, .agg #[.int .i64 a0, .slice A2 l0.length c2], .agg #[.int .i64 a0, .slice A0 l0.length c0], .func (.func 34) #[] #[.pointer (some ⟨Bs, 0, none⟩)], .int .i64 x.1, undef, undef, undef, undef, undef, undef, undef, undef, undef, undef, undef, undef, undef, undef, undef, undef, undef], defers := [] }) ?assign ?body ?done ?stop
  case kb =>
    intro W l o o' hl h1 h2 h3 k hk
    refine World.putObj_heap_other ?_
    have := hbs.lt
    simp at hk
    omega
  case assign =>
    intro l x W K hK
    gi_wp2
    exact hK
  case stop =>
    rintro D c pre W _ _ h _
    exact h.elim
  case body =>
    rintro l pre ⟨x, hx⟩ W ⟨⟨hr, hq, hkx, ho⟩, hB⟩ _
    have b0_ := hr.c 0 _ rfl; have b1_ := hr.c 1 _ rfl; have k0_ := hkx.c 0 _ rfl; have k1_ := hkx.c 1 _ rfl
    have hx0 := hP x hx
    gi_wp2
    have hl0 : 0 < l0.length := by omega
    obtain ⟨rfl, hg1, hg2⟩ := hgw hl0
    obtain ⟨kk, hkk⟩ : ∃ kk : Nat, (kk : Int) = a0 - 1 - x := ⟨(a0 - 1 - x).toNat, by omega⟩
    have hq1_ : kk / 64 < l0.length := by omega
    have hcz := ho.cells (g := gw) rfl (kk / 64) _ (nums_at_ (turnTo a0 zs (pre.map (·.1))) (kk / 64) (by rw [turnTo_len, hLz]; exact hq1_))
    rw [show (⟨gw, 0, none⟩ : Addr).add (kk / 64) = ⟨gw, kk / 64, none⟩ by cases (kk / 64) <;> simp [Addr.add]] at hcz
    have hfz := own_frozen ho (kk / 64)
    obtain ⟨cur, hcur⟩ : ∃ cur, (turnTo a0 zs (pre.map (·.1))).getD (kk / 64) 0 = cur := ⟨_, rfl⟩
    rw [hcur] at hcz
    rw [← hkk]
    have hd0 : (0 : Int) ≤ (kk : Int) / 64 := by omega
    have hd1 : (kk : Int) / 64 < (l0.length : Int) := by omega
    have hdw : IntKind.i64.wrap ((kk : Int) / 64) = ((kk / 64 : Nat) : Int) := by simp [IntKind.wrap, IntKind.signed, IntKind.bits]; omega
    have htm : (kk : Int).tmod 64 = ((kk % 64 : Nat) : Int) := by rw [Int.tmod_eq_emod_of_nonneg (by omega)]; omega
    have hdl : ((kk / 64 : Nat) : Int) < (l0.length : Int) := by omega
    have hkn : ((kk : Int) / 64).toNat = kk / 64 := by omega
    have hk65 : (kk : Int) < 65538 := by omega
    have HKK := Aside0.mk hkk
    clear hkk
    refine region_round (by kernel_rfl) rfl (by kernel_rfl) ?_
    refine wpAnyIn_take (i := 0) (v := ?_) rfl rfl (by kernel_rfl) (by kernel_rfl) (by kernel_rfl) (fun _ _ _ h => h) ⟨Or.inl ⟨by rfl, ?_⟩, fun _ => rfl⟩ ?_
    rotate_left
    · intro w_
      go_simp
      try (with_reducible rfl)
    refine wpAnyIn_take (i := 2) (v := ?_) rfl rfl (by kernel_rfl) (by kernel_rfl) (by kernel_rfl) (fun _ _ _ h => h) ⟨Or.inl ⟨by rfl, ?_⟩, fun _ => rfl⟩ ?_
    rotate_left
    · intro w_
      go_simp
      try (with_reducible rfl)
    refine wpAnyIn_take (i := 6) (v := ?_) rfl rfl (by kernel_rfl) (by kernel_rfl) (by kernel_rfl) (fun _ _ _ h => h) ⟨Or.inl ⟨by rfl, ?_⟩, fun _ => rfl⟩ ?_
    rotate_left
    · intro w_
      go_simp
      try (with_reducible rfl)
    refine wpAnyIn_take (i := 3) (v := ?_) rfl rfl (by kernel_rfl) (by kernel_rfl) (by kernel_rfl) (fun _ _ _ h => h) ⟨Or.inl ⟨by rfl, ?_⟩, fun _ => rfl⟩ ?_
    rotate_left
    · intro w_
      go_simp
      try (with_reducible rfl)
    refine wpAnyIn_take (i := 7) (v := ?_) rfl rfl (by kernel_rfl) (by kernel_rfl) (by kernel_rfl) (fun _ _ _ h => h) ⟨Or.inl ⟨by rfl, ?_⟩, fun _ => rfl⟩ ?_
    rotate_left
    · intro w_
      go_simp
      try (with_reducible rfl)
    refine wpAnyIn_take (i := 8) (v := ?_) rfl rfl (by kernel_rfl) (by kernel_rfl) (by kernel_rfl) (fun _ _ _ h => h) ⟨Or.inl ⟨by rfl, ?_⟩, fun _ => rfl⟩ ?_
    rotate_left
    · intro w_
      go_simp
      try (with_reducible rfl)
    refine wpAnyIn_ready (rs := [1]) (by kernel_rfl) (by simp) ?_
    refine AllReadyIn.cons rfl (fun K_ hK_ => ?_) AllReadyIn.nil
    go_simp
    refine hK_ _ _ ?_
    clear hK_ K_
    refine wpAnyIn_take (i := 4) (v := ?_) rfl rfl (by kernel_rfl) (by kernel_rfl) (by kernel_rfl) (fun _ _ _ h => h) ⟨Or.inl ⟨by rfl, ?_⟩, fun _ => rfl⟩ ?_
    rotate_left
    · intro w_
      go_simp
      try (with_reducible rfl)
    refine wpAnyIn_ready (rs := [5]) (by kernel_rfl) (by simp) ?_
    refine AllReadyIn.cons rfl (fun K_ hK_ => ?_) AllReadyIn.nil
    go_simp
    refine hK_ _ _ ?_
    clear hK_ K_
    refine wpAnyIn_take (i := 9) (v := ?_) rfl rfl (by kernel_rfl) (by kernel_rfl) (by kernel_rfl) (fun _ _ _ h => h) ⟨Or.inl ⟨by rfl, ?_⟩, fun _ => rfl⟩ ?_
    rotate_left
    · intro w_
      go_simp
      try (with_reducible rfl)
    refine wpAnyIn_take (i := 10) (v := ?_) rfl rfl (by kernel_rfl) (by kernel_rfl) (by kernel_rfl) (fun _ _ _ h => h) ⟨Or.inl ⟨by rfl, ?_⟩, fun _ => rfl⟩ ?_
    rotate_left
    · intro w_
      go_simp
      try (with_reducible rfl)
    refine wpAnyIn_ready (rs := [11]) (by kernel_rfl) (by simp) ?_
    refine AllReadyIn.cons rfl (fun K_ hK_ => ?_) AllReadyIn.nil
    go_simp
    refine hK_ _ _ ?_
    clear hK_ K_
    refine wpAnyIn_done (by kernel_rfl) ?_ _
    have hw1 := hq1.lt
    have hB1 := (chain_ (below_alloc (below_alloc (Below.refl w.heap.size w) (.cells #[.int .i64 a0, .slice A0 l0.length c0] 24)) (.cells #[.int .i64 0, .slice none 0 0] 24)) HB.out).size
    have hk := HKK.out
    have hn1 : (2 : Int) ^ ((kk : Int) % 64).toNat = (2 : Int) ^ (kk % 64) := by rw [show ((kk : Int) % 64).toNat = kk % 64 by omega]
    have hn2 : IntKind.u64.wrap ((2 : Int) ^ (kk % 64)) = (2 : Int) ^ (kk % 64) := wrap_pow (kk % 64) (by omega)
    rw [hn1, hn2]
    show KeepsOthers W _ ∧ KpB [Bs, gh, 0] W _ ∧ _ ∧ _
    refine ⟨(KeepsOthers.setCell W _ _).trans (KeepsOthers.drew _), ?_, ⟨?_, ?_, ?_, ?_⟩, ?_⟩
    · intro k hk
      have h2 := (hgh hl0).2
      have h3 : k ≠ gw := by
        simp at hk
        omega
      exact Below.heap_setCell W ⟨gw, kk / 64, none⟩ _ _ h3
    · exact Bx.far hr (p := ⟨gw, kk / 64, none⟩) (by show _ ≠ gw; omega) _
    · exact Bx.far hq (p := ⟨gw, kk / 64, none⟩) (by show _ ≠ gw; omega) _
    · exact Bx.far hkx (p := ⟨gw, kk / 64, none⟩) (by show _ ≠ gw; omega) _
    · have hst := (ho.stored (kk / 64) (.int .u64 (Go.bits .or .u64 cur ((2 : Int) ^ (kk % 64))))).1
      rw [show (nums .u64 (turnTo a0 zs (pre.map (·.1)))).set (kk / 64) (.int .u64 (Go.bits .or .u64 cur ((2 : Int) ^ (kk % 64)))) = nums .u64 (turnTo a0 zs ((pre ++ [(⟨x, hx⟩ : Pl (wf l0) l0.length)]).map (·.1))) by
        rw [List.map_append, List.map_cons, List.map_nil, turnTo_snoc, show (a0 - 1 - x).toNat = kk by omega]
        unfold setb
        rw [hcur]
        simp [nums, List.map_set]] at hst
      exact own_move hst (fun _ _ => rfl)
    · exact (hB.setCell (p := ⟨gw, kk / 64, none⟩) (by show _ ≤ gw; omega) _).drew
  case done =>
    rintro D ys W hD hys ⟨⟨hr, hq, hk, ho⟩, hB⟩ hK
    have k0_ := hk.c 0 _ rfl; have k1_ := hk.c 1 _ rfl; have q0_ := hq.c 0 _ rfl; have q1_ := hq.c 1 _ rfl; have z0_ := hq.fz 0; have z1_ := hq.fz 1
    gi_wp2
    obtain ⟨W1, hW1⟩ : ∃ W1, (W.setCell ⟨w.heap.size + 1, 0, none⟩ (.int .i64 a0)).setCell ⟨w.heap.size + 1, 1, none⟩ (.slice A2 l0.length c2) = W1 := ⟨_, rfl⟩
    rw [hW1]
    have hK1 : W1.heap[D]? = some (.deferred (some [])) := by
      rw [← hW1]
      exact ((KeepsOthers.setCell W _ _).trans (KeepsOthers.setCell _ _ _)).same D _ hK rfl
    have hq2 : Bx W1 (w.heap.size + 1) #[.int .i64 a0, .slice A2 l0.length c2] := by
      rw [← hW1]
      exact (hq.set 0 _ rfl).set 1 _ rfl
    have hg : ∀ r, some D = some r → ∃ o : Obj, W1.heap[r]? = some o ∧ o.isCells = false := fun r e => by cases e; exact ⟨_, hK1, rfl⟩
    have hq3 := Bx.kept hq2 (grownBy_putObj' W1 D (.deferred none)) hg
    have hw1 := hq1.lt
    have ho1 : W1.ownsRow w.heap.size 58 1 (.slice A2 l0.length c2) l0.length (nums .u64 (turnTo a0 zs (plc (wf l0) l0.length))) := by
      rw [← hys, ← hW1]
      refine own_move ho (fun k hk => ?_)
      have h1 : w1.heap.size ≤ k := by
        rcases HO.out.2 with ⟨e1, _⟩ | ⟨g, _, _, e1, h3, _⟩
        · injection e1 with e1
          subst e1
          cases hk
        · injection e1 with e1
          subst e1
          have e : g = k := by injection hk
          omega
      exact (Below.heap_setCell _ ⟨w.heap.size + 1, 1, none⟩ _ _ (by show k ≠ w.heap.size + 1; omega)).trans (Below.heap_setCell _ ⟨w.heap.size + 1, 0, none⟩ _ _ (by show k ≠ w.heap.size + 1; omega))
    refine ⟨by simp, .inl ⟨_, _, rfl, run_takeDeferred hK1, ?_⟩⟩
    have c0_ := hq3.c 0 _ rfl
    have c1_ := hq3.c 1 _ rfl
    refine ⟨.tuple #[.agg #[.int .i64 a0, .slice A2 l0.length c2], .int .i64 0], ?_, _, rfl, own_kept ho1 (grownBy_putObj' W1 D (.deferred none)) hg, ?_⟩
    · simp [results, Tryd.f21, go_sem, c0_, c1_, hu]
    · rw [← hW1]
      exact ((hB.setCell (p := ⟨w.heap.size + 1, 0, none⟩) (by simp) _).setCell (p := ⟨w.heap.size + 1, 1, none⟩) (by simp) _).trans (belowK_b (w := w) (Nat.le_refl _) _ D _ _ (by have := HB4.out.size; omega) (hW1 ▸ hK1) rfl rfl)
end Go.Proofs.YtlghmadoogblcaaDoor.Turned
end
section
namespace Go.Proofs.YtlghmadoogblcaaDoor.TurnPlain
open Go Go.RowKit Go.Proofs.YtlghmadoogblcaaDoor.PW Go.Proofs.YtlghmadoogblcaaDoorW.PrintWords Go.Proofs.YtlghmadoogblcaaDoorW.PrintLast Go.Proofs.YtlghmadoogblcaaDoorW.PrintMore
set_option linter.unusedVariables false
abbrev TurnSays (n : Int) (X Y : List Int) : Prop := ∀ (A : Option Addr) (c : Nat) (w : World), Kd.C (Kd.int .u64) w A X.length X → X.length ≤ c → Tz.Tab w →
  Calls Tryd.prog 21 #[.agg #[.int .i64 n, .slice A X.length c]] w fun e w' => ∃ v : Value, e = .returned (.tuple #[.agg #[.int .i64 n, v], .int .i64 0]) ∧ w'.ownsRow w.heap.size 58 1 v Y.length (nums .u64 Y) ∧ Below w.heap.size w w'
theorem own_C_ {w : World} {base : Nat} {v : Value} {xs : List Int} (h : w.ownsRow base 58 1 v xs.length (nums .u64 xs)) : ∃ A c, v = .slice A xs.length c ∧ xs.length ≤ c ∧ Kd.C (Kd.int .u64) w A xs.length xs :=
  Kd.R_reads (Kd.R_of_own (h1 := fun _ => rfl) (ok := fun _ => True) h (fun _ _ => trivial))
end Go.Proofs.YtlghmadoogblcaaDoor.TurnPlain
end
section
namespace Go.Proofs.YtlghmadoogblcaaDoor.There
open Go Go.RowKit Go.Proofs.YtlghmadoogblcaaDoorW.PrintWords Go.Proofs.YtlghmadoogblcaaDoorW.PrintLast Go.Proofs.YtlghmadoogblcaaDoorW.PrintMore Go.Proofs.YtlghmadoogblcaaDoor.PW Go.Proofs.YtlghmadoogblcaaDoor.Boxes Go.Proofs.YtlghmadoogblcaaDoor.TurnPlain
set_option linter.unusedVariables false
set_option linter.unusedSimpArgs false
set_option maxHeartbeats 8000000 in
set_option maxRecDepth 100000 in
theorem walk (k : Nat) (A0 : Option Addr) (c0 : Nat) (l0 : List Bool) (inn out low lst : Bool) (n : Int) (X6 X7 X9 X12 X15 X17 X19 X21 : List Int) (w : World) (hr0 : Kd.C Kd.bool w A0 l0.length l0) (hc0 : l0.length ≤ c0)
    (hal : vivariumlaw02_alive.f k = some true)
    (hp : vivariumlaw02_pair.f k l0 l0 = some (n, X6, n, X7, true))
    (hT : Tz.Tab w)
    (h9 : words_Up.f k n X6 inn = some (n, X9, out, 0))
    (h12 : words_Down.f k n X9 out = some (n, X12, low, 0))
    (h15 : TurnSays n X6 X15)
    (h17 : TurnSays n X15 X17)
    (h19 : TurnSays n X9 X19)
    (h21 : words_Down.f k n X15 inn = some (n, X21, lst, 0))
    (e0 : vivariumlaw02_equal.f k n X12 n X6 = some true)
    (e1 : vivariumlaw02_equal.f k n X17 n X6 = some true)
    (e2 : vivariumlaw02_equal.f k n X19 n X21 = some true)
    (elow : (low == inn) = true)
    (elst : (lst == out) = true) :
    Calls Tryd.prog 5 #[.slice A0 l0.length c0, .bool inn] w fun e w' => e = .returned (.bool true) ∧ Below w.heap.size w w' := by
  have hu31 := Tryd.underlying24
  have HR0 := Aside0.mk hr0
  have HC0 := Aside0.mk hc0
  have HT := Aside0.mk hT
  have HB := Aside0.mk (Below.refl w.heap.size w)
  have HA := Aside0.mk hal
  have HP := Aside0.mk hp
  have H9 := Aside0.mk h9
  have H12 := Aside0.mk h12
  have H15 := Aside0.mk h15
  have H17 := Aside0.mk h17
  have H19 := Aside0.mk h19
  have H21 := Aside0.mk h21
  have E0 := Aside0.mk e0
  have E1 := Aside0.mk e1
  have E2 := Aside0.mk e2
  clear hr0 hc0 hal hp hT h9 h12 h15 h17 h19 h21 e0 e1 e2
  go_enter Tryd.func5, Tryd.ntmps5
  go_wp2_with (first
    | (go_at_call 7; (with_reducible refine (vivariumlaw02_alive.calls k true _ rfl HA.out).mono ?_); rintro e wa ⟨rfl, hb⟩; (try replace HB := Aside0.mk (below_step HB.out hb)); (try replace HR0 := Aside0.mk (Kd.C_below HR0.out hb)); (try replace B6 := Aside0.mk (blk_below B6.out hb)); (try replace C6 := Aside0.mk (Kd.C_below C6.out hb)); (try replace B7 := Aside0.mk (blk_below B7.out hb)); (try replace C7 := Aside0.mk (Kd.C_below C7.out hb)); (try replace B9 := Aside0.mk (blk_below B9.out hb)); (try replace C9 := Aside0.mk (Kd.C_below C9.out hb)); (try replace B12 := Aside0.mk (blk_below B12.out hb)); (try replace C12 := Aside0.mk (Kd.C_below C12.out hb)); (try replace B15 := Aside0.mk (blk_below B15.out hb)); (try replace C15 := Aside0.mk (Kd.C_below C15.out hb)); (try replace B17 := Aside0.mk (blk_below B17.out hb)); (try replace C17 := Aside0.mk (Kd.C_below C17.out hb)); (try replace B19 := Aside0.mk (blk_below B19.out hb)); (try replace C19 := Aside0.mk (Kd.C_below C19.out hb)); (try replace B21 := Aside0.mk (blk_below B21.out hb)); (try replace C21 := Aside0.mk (Kd.C_below C21.out hb)); clear hb)
    | (go_at_call 18; (with_reducible refine (vivariumlaw02_pair.calls k A0 c0 l0 A0 c0 l0 n X6 n X7 true _ HR0.out HC0.out HR0.out HC0.out HP.out).mono ?_); rintro e wp ⟨v6_, v7_, rfl, ho6, ho7, hb⟩; obtain ⟨A6, c6, rfl, l6_, r6_⟩ := Kd.R_reads ho6; obtain ⟨A7, c7, rfl, l7_, r7_⟩ := Kd.R_reads ho7; (try replace HB := Aside0.mk (below_step HB.out hb)); (try replace HR0 := Aside0.mk (Kd.C_below HR0.out hb)); (try replace B6 := Aside0.mk (blk_below B6.out hb)); (try replace C6 := Aside0.mk (Kd.C_below C6.out hb)); (try replace B7 := Aside0.mk (blk_below B7.out hb)); (try replace C7 := Aside0.mk (Kd.C_below C7.out hb)); (try replace B9 := Aside0.mk (blk_below B9.out hb)); (try replace C9 := Aside0.mk (Kd.C_below C9.out hb)); (try replace B12 := Aside0.mk (blk_below B12.out hb)); (try replace C12 := Aside0.mk (Kd.C_below C12.out hb)); (try replace B15 := Aside0.mk (blk_below B15.out hb)); (try replace C15 := Aside0.mk (Kd.C_below C15.out hb)); (try replace B17 := Aside0.mk (blk_below B17.out hb)); (try replace C17 := Aside0.mk (Kd.C_below C17.out hb)); (try replace B19 := Aside0.mk (blk_below B19.out hb)); (try replace C19 := Aside0.mk (Kd.C_below C19.out hb)); (try replace B21 := Aside0.mk (blk_below B21.out hb)); (try replace C21 := Aside0.mk (Kd.C_below C21.out hb)); have C6 := Aside0.mk r6_; have C7 := Aside0.mk r7_; have L6 := Aside0.mk l6_; have L7 := Aside0.mk l7_; clear hb ho6 ho7 l6_ l7_ r6_ r7_)
    | ((with_reducible refine gate_dst (N := 6) rfl ?_); refine box_event ?hg (N := 6) ?hd (cs := #[.int .i64 0, .slice none 0 0]) (t := 24) ?hr ?_; (case hd => rfl); (case hg => rfl); (case hr => first | (go_simp; done) | (go_simp; rfl)); intro g6 hg w_6 hbox hb; have GX6 := Aside0.mk (Nat.le_of_eq hg.symm); have HBX := Aside0.mk hb; have B6 := Aside0.mk hbox; clear hb hbox hg)
    | ((with_reducible refine gate_dst (N := 7) rfl ?_); refine box_event ?hg (N := 7) ?hd (cs := #[.int .i64 0, .slice none 0 0]) (t := 24) ?hr ?_; (case hd => rfl); (case hg => rfl); (case hr => first | (go_simp; done) | (go_simp; rfl)); intro g7 hg w_7 hbox hb; have GX7 : Aside0 (wp.heap.size ≤ g7) := ⟨by rw [hg]; exact below_size HBX.out⟩; have NE := Aside0.mk (show g6 ≠ g7 by rw [hg]; exact Nat.ne_of_lt (blk_lt B6.out)); replace HBX := Aside0.mk (below_step HBX.out hb); replace B6 := Aside0.mk (blk_below B6.out hb); have B7 := Aside0.mk hbox; clear hb hbox hg)
    | ((with_reducible refine gate_store (t := 24) (p := 6) (v := .tmp 29) rfl ?_); have q0_ := (blk_cell B6.out 0).trans (show #[Value.int .i64 0, Value.slice none 0 0][0]? = some (Value.int .i64 0) from rfl); have q1_ := (blk_cell B6.out 1).trans (show #[Value.int .i64 0, Value.slice none 0 0][1]? = some (Value.slice none 0 0) from rfl); have q2_ := blk_frozen B6.out 0; have q3_ := blk_frozen B6.out 1; refine store31 (x := .int .i64 n) (y := .slice A6 X6.length c6) rfl rfl ?hr HBX.out GX6.out B6.out ?_; (case hr => first | (go_simp; done) | (go_simp; rfl)); intro W6 hbox hfar hb; clear q0_ q1_ q2_ q3_; replace B6 := Aside0.mk hbox; replace B7 := Aside0.mk ((hfar _ (Ne.symm NE.out)).trans B7.out); replace HBX := Aside0.mk hb; clear hb hbox hfar)
    | ((with_reducible refine gate_store (t := 24) (p := 7) (v := .tmp 30) rfl ?_); have q0_ := (blk_cell B7.out 0).trans (show #[Value.int .i64 0, Value.slice none 0 0][0]? = some (Value.int .i64 0) from rfl); have q1_ := (blk_cell B7.out 1).trans (show #[Value.int .i64 0, Value.slice none 0 0][1]? = some (Value.slice none 0 0) from rfl); have q2_ := blk_frozen B7.out 0; have q3_ := blk_frozen B7.out 1; refine store31 (x := .int .i64 n) (y := .slice A7 X7.length c7) rfl rfl ?hr HBX.out GX7.out B7.out ?_; (case hr => first | (go_simp; done) | (go_simp; rfl)); intro W7 hbox hfar hb; clear q0_ q1_ q2_ q3_; replace B7 := Aside0.mk hbox; replace B6 := Aside0.mk ((hfar _ NE.out).trans B6.out); clear HBX; have B6' := B6; have B7' := B7; clear B6 B7; (try replace HB := Aside0.mk (below_step HB.out hb)); (try replace HR0 := Aside0.mk (Kd.C_below HR0.out hb)); (try replace B6 := Aside0.mk (blk_below B6.out hb)); (try replace C6 := Aside0.mk (Kd.C_below C6.out hb)); (try replace B7 := Aside0.mk (blk_below B7.out hb)); (try replace C7 := Aside0.mk (Kd.C_below C7.out hb)); (try replace B9 := Aside0.mk (blk_below B9.out hb)); (try replace C9 := Aside0.mk (Kd.C_below C9.out hb)); (try replace B12 := Aside0.mk (blk_below B12.out hb)); (try replace C12 := Aside0.mk (Kd.C_below C12.out hb)); (try replace B15 := Aside0.mk (blk_below B15.out hb)); (try replace C15 := Aside0.mk (Kd.C_below C15.out hb)); (try replace B17 := Aside0.mk (blk_below B17.out hb)); (try replace C17 := Aside0.mk (Kd.C_below C17.out hb)); (try replace B19 := Aside0.mk (blk_below B19.out hb)); (try replace C19 := Aside0.mk (Kd.C_below C19.out hb)); (try replace B21 := Aside0.mk (blk_below B21.out hb)); (try replace C21 := Aside0.mk (Kd.C_below C21.out hb)); have B6 := B6'; have B7 := B7'; clear B6' B7' hb hbox hfar; have z6_0 : W7.cell? ⟨g6, 0, none⟩ = some (.int .i64 n) := (blk_cell B6.out 0).trans rfl; have z6_1 : W7.cell? ⟨g6, 1, none⟩ = some (.slice A6 X6.length c6) := (blk_cell B6.out 1).trans rfl; have y6_0 := blk_frozen B6.out 0; have y6_1 := blk_frozen B6.out 1)
    | (go_at_call 19; (with_reducible refine (words_Up.calls k n A6 c6 X6 inn n X9 out 0 _ C6.out L6.out H9.out).mono ?_); rintro e we9 ⟨v9_, rfl, ho, hb⟩; obtain ⟨A9, c9, rfl, l_, r_⟩ := Kd.R_reads ho; (try replace HB := Aside0.mk (below_step HB.out hb)); (try replace HR0 := Aside0.mk (Kd.C_below HR0.out hb)); (try replace B6 := Aside0.mk (blk_below B6.out hb)); (try replace C6 := Aside0.mk (Kd.C_below C6.out hb)); (try replace B7 := Aside0.mk (blk_below B7.out hb)); (try replace C7 := Aside0.mk (Kd.C_below C7.out hb)); (try replace B9 := Aside0.mk (blk_below B9.out hb)); (try replace C9 := Aside0.mk (Kd.C_below C9.out hb)); (try replace B12 := Aside0.mk (blk_below B12.out hb)); (try replace C12 := Aside0.mk (Kd.C_below C12.out hb)); (try replace B15 := Aside0.mk (blk_below B15.out hb)); (try replace C15 := Aside0.mk (Kd.C_below C15.out hb)); (try replace B17 := Aside0.mk (blk_below B17.out hb)); (try replace C17 := Aside0.mk (Kd.C_below C17.out hb)); (try replace B19 := Aside0.mk (blk_below B19.out hb)); (try replace C19 := Aside0.mk (Kd.C_below C19.out hb)); (try replace B21 := Aside0.mk (blk_below B21.out hb)); (try replace C21 := Aside0.mk (Kd.C_below C21.out hb)); have C9 := Aside0.mk r_; have L9 := Aside0.mk l_; clear hb ho l_ r_; (try clear z6_0 z6_1 y6_0 y6_1))
    | ((with_reducible refine gate_dst (N := 9) rfl ?_); refine box_event ?hg (N := 9) ?hd (cs := #[.int .i64 0, .slice none 0 0]) (t := 24) ?hr ?_; (case hd => rfl); (case hg => rfl); (case hr => first | (go_simp; done) | (go_simp; rfl)); intro g9 hg w_9 hbox hb; have GX9 := Aside0.mk (Nat.le_of_eq hg.symm); have HBX := Aside0.mk hb; have B9 := Aside0.mk hbox; clear hb hbox hg)
    | ((with_reducible refine gate_store (t := 24) (p := 9) (v := .tmp 42) rfl ?_); have q0_ := (blk_cell B9.out 0).trans (show #[Value.int .i64 0, Value.slice none 0 0][0]? = some (Value.int .i64 0) from rfl); have q1_ := (blk_cell B9.out 1).trans (show #[Value.int .i64 0, Value.slice none 0 0][1]? = some (Value.slice none 0 0) from rfl); have q2_ := blk_frozen B9.out 0; have q3_ := blk_frozen B9.out 1; refine store31 (x := .int .i64 n) (y := .slice A9 X9.length c9) rfl rfl ?hr HBX.out GX9.out B9.out ?_; (case hr => first | (go_simp; done) | (go_simp; rfl)); intro W9 hbox hfar hb; clear q0_ q1_ q2_ q3_; clear HBX; have B9' := Aside0.mk hbox; clear B9; (try replace HB := Aside0.mk (below_step HB.out hb)); (try replace HR0 := Aside0.mk (Kd.C_below HR0.out hb)); (try replace B6 := Aside0.mk (blk_below B6.out hb)); (try replace C6 := Aside0.mk (Kd.C_below C6.out hb)); (try replace B7 := Aside0.mk (blk_below B7.out hb)); (try replace C7 := Aside0.mk (Kd.C_below C7.out hb)); (try replace B9 := Aside0.mk (blk_below B9.out hb)); (try replace C9 := Aside0.mk (Kd.C_below C9.out hb)); (try replace B12 := Aside0.mk (blk_below B12.out hb)); (try replace C12 := Aside0.mk (Kd.C_below C12.out hb)); (try replace B15 := Aside0.mk (blk_below B15.out hb)); (try replace C15 := Aside0.mk (Kd.C_below C15.out hb)); (try replace B17 := Aside0.mk (blk_below B17.out hb)); (try replace C17 := Aside0.mk (Kd.C_below C17.out hb)); (try replace B19 := Aside0.mk (blk_below B19.out hb)); (try replace C19 := Aside0.mk (Kd.C_below C19.out hb)); (try replace B21 := Aside0.mk (blk_below B21.out hb)); (try replace C21 := Aside0.mk (Kd.C_below C21.out hb)); have B9 := B9'; clear B9' hb hbox hfar; have z9_0 : W9.cell? ⟨g9, 0, none⟩ = some (.int .i64 n) := (blk_cell B9.out 0).trans rfl; have z9_1 : W9.cell? ⟨g9, 1, none⟩ = some (.slice A9 X9.length c9) := (blk_cell B9.out 1).trans rfl; have y9_0 := blk_frozen B9.out 0; have y9_1 := blk_frozen B9.out 1)
    | (go_at_call 20; (with_reducible refine (words_Down.calls k n A9 c9 X9 out n X12 low 0 _ C9.out L9.out H12.out).mono ?_); rintro e we12 ⟨v12_, rfl, ho, hb⟩; obtain ⟨A12, c12, rfl, l_, r_⟩ := Kd.R_reads ho; (try replace HB := Aside0.mk (below_step HB.out hb)); (try replace HR0 := Aside0.mk (Kd.C_below HR0.out hb)); (try replace B6 := Aside0.mk (blk_below B6.out hb)); (try replace C6 := Aside0.mk (Kd.C_below C6.out hb)); (try replace B7 := Aside0.mk (blk_below B7.out hb)); (try replace C7 := Aside0.mk (Kd.C_below C7.out hb)); (try replace B9 := Aside0.mk (blk_below B9.out hb)); (try replace C9 := Aside0.mk (Kd.C_below C9.out hb)); (try replace B12 := Aside0.mk (blk_below B12.out hb)); (try replace C12 := Aside0.mk (Kd.C_below C12.out hb)); (try replace B15 := Aside0.mk (blk_below B15.out hb)); (try replace C15 := Aside0.mk (Kd.C_below C15.out hb)); (try replace B17 := Aside0.mk (blk_below B17.out hb)); (try replace C17 := Aside0.mk (Kd.C_below C17.out hb)); (try replace B19 := Aside0.mk (blk_below B19.out hb)); (try replace C19 := Aside0.mk (Kd.C_below C19.out hb)); (try replace B21 := Aside0.mk (blk_below B21.out hb)); (try replace C21 := Aside0.mk (Kd.C_below C21.out hb)); have C12 := Aside0.mk r_; have L12 := Aside0.mk l_; clear hb ho l_ r_; (try clear z9_0 z9_1 y9_0 y9_1))
    | ((with_reducible refine gate_dst (N := 12) rfl ?_); refine box_event ?hg (N := 12) ?hd (cs := #[.int .i64 0, .slice none 0 0]) (t := 24) ?hr ?_; (case hd => rfl); (case hg => rfl); (case hr => first | (go_simp; done) | (go_simp; rfl)); intro g12 hg w_12 hbox hb; have GX12 := Aside0.mk (Nat.le_of_eq hg.symm); have HBX := Aside0.mk hb; have B12 := Aside0.mk hbox; clear hb hbox hg)
    | ((with_reducible refine gate_store (t := 24) (p := 12) (v := .tmp 49) rfl ?_); have q0_ := (blk_cell B12.out 0).trans (show #[Value.int .i64 0, Value.slice none 0 0][0]? = some (Value.int .i64 0) from rfl); have q1_ := (blk_cell B12.out 1).trans (show #[Value.int .i64 0, Value.slice none 0 0][1]? = some (Value.slice none 0 0) from rfl); have q2_ := blk_frozen B12.out 0; have q3_ := blk_frozen B12.out 1; refine store31 (x := .int .i64 n) (y := .slice A12 X12.length c12) rfl rfl ?hr HBX.out GX12.out B12.out ?_; (case hr => first | (go_simp; done) | (go_simp; rfl)); intro W12 hbox hfar hb; clear q0_ q1_ q2_ q3_; clear HBX; have B12' := Aside0.mk hbox; clear B12; (try replace HB := Aside0.mk (below_step HB.out hb)); (try replace HR0 := Aside0.mk (Kd.C_below HR0.out hb)); (try replace B6 := Aside0.mk (blk_below B6.out hb)); (try replace C6 := Aside0.mk (Kd.C_below C6.out hb)); (try replace B7 := Aside0.mk (blk_below B7.out hb)); (try replace C7 := Aside0.mk (Kd.C_below C7.out hb)); (try replace B9 := Aside0.mk (blk_below B9.out hb)); (try replace C9 := Aside0.mk (Kd.C_below C9.out hb)); (try replace B12 := Aside0.mk (blk_below B12.out hb)); (try replace C12 := Aside0.mk (Kd.C_below C12.out hb)); (try replace B15 := Aside0.mk (blk_below B15.out hb)); (try replace C15 := Aside0.mk (Kd.C_below C15.out hb)); (try replace B17 := Aside0.mk (blk_below B17.out hb)); (try replace C17 := Aside0.mk (Kd.C_below C17.out hb)); (try replace B19 := Aside0.mk (blk_below B19.out hb)); (try replace C19 := Aside0.mk (Kd.C_below C19.out hb)); (try replace B21 := Aside0.mk (blk_below B21.out hb)); (try replace C21 := Aside0.mk (Kd.C_below C21.out hb)); have B12 := B12'; clear B12' hb hbox hfar; have z6_0 : W12.cell? ⟨g6, 0, none⟩ = some (.int .i64 n) := (blk_cell B6.out 0).trans rfl; have z6_1 : W12.cell? ⟨g6, 1, none⟩ = some (.slice A6 X6.length c6) := (blk_cell B6.out 1).trans rfl; have y6_0 := blk_frozen B6.out 0; have y6_1 := blk_frozen B6.out 1)
    | (go_at_call 21; (with_reducible refine (H15.out A6 c6 _ C6.out L6.out (HT.out.on HB.out)).mono ?_); rintro e we15 ⟨v15_, rfl, ho, hb⟩; obtain ⟨A15, c15, rfl, l_, r_⟩ := own_C_ ho; (try replace HB := Aside0.mk (below_step HB.out hb)); (try replace HR0 := Aside0.mk (Kd.C_below HR0.out hb)); (try replace B6 := Aside0.mk (blk_below B6.out hb)); (try replace C6 := Aside0.mk (Kd.C_below C6.out hb)); (try replace B7 := Aside0.mk (blk_below B7.out hb)); (try replace C7 := Aside0.mk (Kd.C_below C7.out hb)); (try replace B9 := Aside0.mk (blk_below B9.out hb)); (try replace C9 := Aside0.mk (Kd.C_below C9.out hb)); (try replace B12 := Aside0.mk (blk_below B12.out hb)); (try replace C12 := Aside0.mk (Kd.C_below C12.out hb)); (try replace B15 := Aside0.mk (blk_below B15.out hb)); (try replace C15 := Aside0.mk (Kd.C_below C15.out hb)); (try replace B17 := Aside0.mk (blk_below B17.out hb)); (try replace C17 := Aside0.mk (Kd.C_below C17.out hb)); (try replace B19 := Aside0.mk (blk_below B19.out hb)); (try replace C19 := Aside0.mk (Kd.C_below C19.out hb)); (try replace B21 := Aside0.mk (blk_below B21.out hb)); (try replace C21 := Aside0.mk (Kd.C_below C21.out hb)); have C15 := Aside0.mk r_; have L15 := Aside0.mk l_; clear hb ho l_ r_; (try clear z6_0 z6_1 y6_0 y6_1))
    | ((with_reducible refine gate_dst (N := 15) rfl ?_); refine box_event ?hg (N := 15) ?hd (cs := #[.int .i64 0, .slice none 0 0]) (t := 24) ?hr ?_; (case hd => rfl); (case hg => rfl); (case hr => first | (go_simp; done) | (go_simp; rfl)); intro g15 hg w_15 hbox hb; have GX15 := Aside0.mk (Nat.le_of_eq hg.symm); have HBX := Aside0.mk hb; have B15 := Aside0.mk hbox; clear hb hbox hg)
    | ((with_reducible refine gate_store (t := 24) (p := 15) (v := .tmp 55) rfl ?_); have q0_ := (blk_cell B15.out 0).trans (show #[Value.int .i64 0, Value.slice none 0 0][0]? = some (Value.int .i64 0) from rfl); have q1_ := (blk_cell B15.out 1).trans (show #[Value.int .i64 0, Value.slice none 0 0][1]? = some (Value.slice none 0 0) from rfl); have q2_ := blk_frozen B15.out 0; have q3_ := blk_frozen B15.out 1; refine store31 (x := .int .i64 n) (y := .slice A15 X15.length c15) rfl rfl ?hr HBX.out GX15.out B15.out ?_; (case hr => first | (go_simp; done) | (go_simp; rfl)); intro W15 hbox hfar hb; clear q0_ q1_ q2_ q3_; clear HBX; have B15' := Aside0.mk hbox; clear B15; (try replace HB := Aside0.mk (below_step HB.out hb)); (try replace HR0 := Aside0.mk (Kd.C_below HR0.out hb)); (try replace B6 := Aside0.mk (blk_below B6.out hb)); (try replace C6 := Aside0.mk (Kd.C_below C6.out hb)); (try replace B7 := Aside0.mk (blk_below B7.out hb)); (try replace C7 := Aside0.mk (Kd.C_below C7.out hb)); (try replace B9 := Aside0.mk (blk_below B9.out hb)); (try replace C9 := Aside0.mk (Kd.C_below C9.out hb)); (try replace B12 := Aside0.mk (blk_below B12.out hb)); (try replace C12 := Aside0.mk (Kd.C_below C12.out hb)); (try replace B15 := Aside0.mk (blk_below B15.out hb)); (try replace C15 := Aside0.mk (Kd.C_below C15.out hb)); (try replace B17 := Aside0.mk (blk_below B17.out hb)); (try replace C17 := Aside0.mk (Kd.C_below C17.out hb)); (try replace B19 := Aside0.mk (blk_below B19.out hb)); (try replace C19 := Aside0.mk (Kd.C_below C19.out hb)); (try replace B21 := Aside0.mk (blk_below B21.out hb)); (try replace C21 := Aside0.mk (Kd.C_below C21.out hb)); have B15 := B15'; clear B15' hb hbox hfar; have z15_0 : W15.cell? ⟨g15, 0, none⟩ = some (.int .i64 n) := (blk_cell B15.out 0).trans rfl; have z15_1 : W15.cell? ⟨g15, 1, none⟩ = some (.slice A15 X15.length c15) := (blk_cell B15.out 1).trans rfl; have y15_0 := blk_frozen B15.out 0; have y15_1 := blk_frozen B15.out 1)
    | (go_at_call 21; (with_reducible refine (H17.out A15 c15 _ C15.out L15.out (HT.out.on HB.out)).mono ?_); rintro e we17 ⟨v17_, rfl, ho, hb⟩; obtain ⟨A17, c17, rfl, l_, r_⟩ := own_C_ ho; (try replace HB := Aside0.mk (below_step HB.out hb)); (try replace HR0 := Aside0.mk (Kd.C_below HR0.out hb)); (try replace B6 := Aside0.mk (blk_below B6.out hb)); (try replace C6 := Aside0.mk (Kd.C_below C6.out hb)); (try replace B7 := Aside0.mk (blk_below B7.out hb)); (try replace C7 := Aside0.mk (Kd.C_below C7.out hb)); (try replace B9 := Aside0.mk (blk_below B9.out hb)); (try replace C9 := Aside0.mk (Kd.C_below C9.out hb)); (try replace B12 := Aside0.mk (blk_below B12.out hb)); (try replace C12 := Aside0.mk (Kd.C_below C12.out hb)); (try replace B15 := Aside0.mk (blk_below B15.out hb)); (try replace C15 := Aside0.mk (Kd.C_below C15.out hb)); (try replace B17 := Aside0.mk (blk_below B17.out hb)); (try replace C17 := Aside0.mk (Kd.C_below C17.out hb)); (try replace B19 := Aside0.mk (blk_below B19.out hb)); (try replace C19 := Aside0.mk (Kd.C_below C19.out hb)); (try replace B21 := Aside0.mk (blk_below B21.out hb)); (try replace C21 := Aside0.mk (Kd.C_below C21.out hb)); have C17 := Aside0.mk r_; have L17 := Aside0.mk l_; clear hb ho l_ r_; (try clear z15_0 z15_1 y15_0 y15_1))
    | ((with_reducible refine gate_dst (N := 17) rfl ?_); refine box_event ?hg (N := 17) ?hd (cs := #[.int .i64 0, .slice none 0 0]) (t := 24) ?hr ?_; (case hd => rfl); (case hg => rfl); (case hr => first | (go_simp; done) | (go_simp; rfl)); intro g17 hg w_17 hbox hb; have GX17 := Aside0.mk (Nat.le_of_eq hg.symm); have HBX := Aside0.mk hb; have B17 := Aside0.mk hbox; clear hb hbox hg)
    | ((with_reducible refine gate_store (t := 24) (p := 17) (v := .tmp 60) rfl ?_); have q0_ := (blk_cell B17.out 0).trans (show #[Value.int .i64 0, Value.slice none 0 0][0]? = some (Value.int .i64 0) from rfl); have q1_ := (blk_cell B17.out 1).trans (show #[Value.int .i64 0, Value.slice none 0 0][1]? = some (Value.slice none 0 0) from rfl); have q2_ := blk_frozen B17.out 0; have q3_ := blk_frozen B17.out 1; refine store31 (x := .int .i64 n) (y := .slice A17 X17.length c17) rfl rfl ?hr HBX.out GX17.out B17.out ?_; (case hr => first | (go_simp; done) | (go_simp; rfl)); intro W17 hbox hfar hb; clear q0_ q1_ q2_ q3_; clear HBX; have B17' := Aside0.mk hbox; clear B17; (try replace HB := Aside0.mk (below_step HB.out hb)); (try replace HR0 := Aside0.mk (Kd.C_below HR0.out hb)); (try replace B6 := Aside0.mk (blk_below B6.out hb)); (try replace C6 := Aside0.mk (Kd.C_below C6.out hb)); (try replace B7 := Aside0.mk (blk_below B7.out hb)); (try replace C7 := Aside0.mk (Kd.C_below C7.out hb)); (try replace B9 := Aside0.mk (blk_below B9.out hb)); (try replace C9 := Aside0.mk (Kd.C_below C9.out hb)); (try replace B12 := Aside0.mk (blk_below B12.out hb)); (try replace C12 := Aside0.mk (Kd.C_below C12.out hb)); (try replace B15 := Aside0.mk (blk_below B15.out hb)); (try replace C15 := Aside0.mk (Kd.C_below C15.out hb)); (try replace B17 := Aside0.mk (blk_below B17.out hb)); (try replace C17 := Aside0.mk (Kd.C_below C17.out hb)); (try replace B19 := Aside0.mk (blk_below B19.out hb)); (try replace C19 := Aside0.mk (Kd.C_below C19.out hb)); (try replace B21 := Aside0.mk (blk_below B21.out hb)); (try replace C21 := Aside0.mk (Kd.C_below C21.out hb)); have B17 := B17'; clear B17' hb hbox hfar; have z9_0 : W17.cell? ⟨g9, 0, none⟩ = some (.int .i64 n) := (blk_cell B9.out 0).trans rfl; have z9_1 : W17.cell? ⟨g9, 1, none⟩ = some (.slice A9 X9.length c9) := (blk_cell B9.out 1).trans rfl; have y9_0 := blk_frozen B9.out 0; have y9_1 := blk_frozen B9.out 1)
    | (go_at_call 21; (with_reducible refine (H19.out A9 c9 _ C9.out L9.out (HT.out.on HB.out)).mono ?_); rintro e we19 ⟨v19_, rfl, ho, hb⟩; obtain ⟨A19, c19, rfl, l_, r_⟩ := own_C_ ho; (try replace HB := Aside0.mk (below_step HB.out hb)); (try replace HR0 := Aside0.mk (Kd.C_below HR0.out hb)); (try replace B6 := Aside0.mk (blk_below B6.out hb)); (try replace C6 := Aside0.mk (Kd.C_below C6.out hb)); (try replace B7 := Aside0.mk (blk_below B7.out hb)); (try replace C7 := Aside0.mk (Kd.C_below C7.out hb)); (try replace B9 := Aside0.mk (blk_below B9.out hb)); (try replace C9 := Aside0.mk (Kd.C_below C9.out hb)); (try replace B12 := Aside0.mk (blk_below B12.out hb)); (try replace C12 := Aside0.mk (Kd.C_below C12.out hb)); (try replace B15 := Aside0.mk (blk_below B15.out hb)); (try replace C15 := Aside0.mk (Kd.C_below C15.out hb)); (try replace B17 := Aside0.mk (blk_below B17.out hb)); (try replace C17 := Aside0.mk (Kd.C_below C17.out hb)); (try replace B19 := Aside0.mk (blk_below B19.out hb)); (try replace C19 := Aside0.mk (Kd.C_below C19.out hb)); (try replace B21 := Aside0.mk (blk_below B21.out hb)); (try replace C21 := Aside0.mk (Kd.C_below C21.out hb)); have C19 := Aside0.mk r_; have L19 := Aside0.mk l_; clear hb ho l_ r_; (try clear z9_0 z9_1 y9_0 y9_1))
    | ((with_reducible refine gate_dst (N := 19) rfl ?_); refine box_event ?hg (N := 19) ?hd (cs := #[.int .i64 0, .slice none 0 0]) (t := 24) ?hr ?_; (case hd => rfl); (case hg => rfl); (case hr => first | (go_simp; done) | (go_simp; rfl)); intro g19 hg w_19 hbox hb; have GX19 := Aside0.mk (Nat.le_of_eq hg.symm); have HBX := Aside0.mk hb; have B19 := Aside0.mk hbox; clear hb hbox hg)
    | ((with_reducible refine gate_store (t := 24) (p := 19) (v := .tmp 65) rfl ?_); have q0_ := (blk_cell B19.out 0).trans (show #[Value.int .i64 0, Value.slice none 0 0][0]? = some (Value.int .i64 0) from rfl); have q1_ := (blk_cell B19.out 1).trans (show #[Value.int .i64 0, Value.slice none 0 0][1]? = some (Value.slice none 0 0) from rfl); have q2_ := blk_frozen B19.out 0; have q3_ := blk_frozen B19.out 1; refine store31 (x := .int .i64 n) (y := .slice A19 X19.length c19) rfl rfl ?hr HBX.out GX19.out B19.out ?_; (case hr => first | (go_simp; done) | (go_simp; rfl)); intro W19 hbox hfar hb; clear q0_ q1_ q2_ q3_; clear HBX; have B19' := Aside0.mk hbox; clear B19; (try replace HB := Aside0.mk (below_step HB.out hb)); (try replace HR0 := Aside0.mk (Kd.C_below HR0.out hb)); (try replace B6 := Aside0.mk (blk_below B6.out hb)); (try replace C6 := Aside0.mk (Kd.C_below C6.out hb)); (try replace B7 := Aside0.mk (blk_below B7.out hb)); (try replace C7 := Aside0.mk (Kd.C_below C7.out hb)); (try replace B9 := Aside0.mk (blk_below B9.out hb)); (try replace C9 := Aside0.mk (Kd.C_below C9.out hb)); (try replace B12 := Aside0.mk (blk_below B12.out hb)); (try replace C12 := Aside0.mk (Kd.C_below C12.out hb)); (try replace B15 := Aside0.mk (blk_below B15.out hb)); (try replace C15 := Aside0.mk (Kd.C_below C15.out hb)); (try replace B17 := Aside0.mk (blk_below B17.out hb)); (try replace C17 := Aside0.mk (Kd.C_below C17.out hb)); (try replace B19 := Aside0.mk (blk_below B19.out hb)); (try replace C19 := Aside0.mk (Kd.C_below C19.out hb)); (try replace B21 := Aside0.mk (blk_below B21.out hb)); (try replace C21 := Aside0.mk (Kd.C_below C21.out hb)); have B19 := B19'; clear B19' hb hbox hfar; have z15_0 : W19.cell? ⟨g15, 0, none⟩ = some (.int .i64 n) := (blk_cell B15.out 0).trans rfl; have z15_1 : W19.cell? ⟨g15, 1, none⟩ = some (.slice A15 X15.length c15) := (blk_cell B15.out 1).trans rfl; have y15_0 := blk_frozen B15.out 0; have y15_1 := blk_frozen B15.out 1)
    | (go_at_call 20; (with_reducible refine (words_Down.calls k n A15 c15 X15 inn n X21 lst 0 _ C15.out L15.out H21.out).mono ?_); rintro e we21 ⟨v21_, rfl, ho, hb⟩; obtain ⟨A21, c21, rfl, l_, r_⟩ := Kd.R_reads ho; (try replace HB := Aside0.mk (below_step HB.out hb)); (try replace HR0 := Aside0.mk (Kd.C_below HR0.out hb)); (try replace B6 := Aside0.mk (blk_below B6.out hb)); (try replace C6 := Aside0.mk (Kd.C_below C6.out hb)); (try replace B7 := Aside0.mk (blk_below B7.out hb)); (try replace C7 := Aside0.mk (Kd.C_below C7.out hb)); (try replace B9 := Aside0.mk (blk_below B9.out hb)); (try replace C9 := Aside0.mk (Kd.C_below C9.out hb)); (try replace B12 := Aside0.mk (blk_below B12.out hb)); (try replace C12 := Aside0.mk (Kd.C_below C12.out hb)); (try replace B15 := Aside0.mk (blk_below B15.out hb)); (try replace C15 := Aside0.mk (Kd.C_below C15.out hb)); (try replace B17 := Aside0.mk (blk_below B17.out hb)); (try replace C17 := Aside0.mk (Kd.C_below C17.out hb)); (try replace B19 := Aside0.mk (blk_below B19.out hb)); (try replace C19 := Aside0.mk (Kd.C_below C19.out hb)); (try replace B21 := Aside0.mk (blk_below B21.out hb)); (try replace C21 := Aside0.mk (Kd.C_below C21.out hb)); have C21 := Aside0.mk r_; have L21 := Aside0.mk l_; clear hb ho l_ r_; (try clear z15_0 z15_1 y15_0 y15_1))
    | ((with_reducible refine gate_dst (N := 21) rfl ?_); refine box_event ?hg (N := 21) ?hd (cs := #[.int .i64 0, .slice none 0 0]) (t := 24) ?hr ?_; (case hd => rfl); (case hg => rfl); (case hr => first | (go_simp; done) | (go_simp; rfl)); intro g21 hg w_21 hbox hb; have GX21 := Aside0.mk (Nat.le_of_eq hg.symm); have HBX := Aside0.mk hb; have B21 := Aside0.mk hbox; clear hb hbox hg)
    | ((with_reducible refine gate_store (t := 24) (p := 21) (v := .tmp 71) rfl ?_); have q0_ := (blk_cell B21.out 0).trans (show #[Value.int .i64 0, Value.slice none 0 0][0]? = some (Value.int .i64 0) from rfl); have q1_ := (blk_cell B21.out 1).trans (show #[Value.int .i64 0, Value.slice none 0 0][1]? = some (Value.slice none 0 0) from rfl); have q2_ := blk_frozen B21.out 0; have q3_ := blk_frozen B21.out 1; refine store31 (x := .int .i64 n) (y := .slice A21 X21.length c21) rfl rfl ?hr HBX.out GX21.out B21.out ?_; (case hr => first | (go_simp; done) | (go_simp; rfl)); intro W21 hbox hfar hb; clear q0_ q1_ q2_ q3_; clear HBX; have B21' := Aside0.mk hbox; clear B21; (try replace HB := Aside0.mk (below_step HB.out hb)); (try replace HR0 := Aside0.mk (Kd.C_below HR0.out hb)); (try replace B6 := Aside0.mk (blk_below B6.out hb)); (try replace C6 := Aside0.mk (Kd.C_below C6.out hb)); (try replace B7 := Aside0.mk (blk_below B7.out hb)); (try replace C7 := Aside0.mk (Kd.C_below C7.out hb)); (try replace B9 := Aside0.mk (blk_below B9.out hb)); (try replace C9 := Aside0.mk (Kd.C_below C9.out hb)); (try replace B12 := Aside0.mk (blk_below B12.out hb)); (try replace C12 := Aside0.mk (Kd.C_below C12.out hb)); (try replace B15 := Aside0.mk (blk_below B15.out hb)); (try replace C15 := Aside0.mk (Kd.C_below C15.out hb)); (try replace B17 := Aside0.mk (blk_below B17.out hb)); (try replace C17 := Aside0.mk (Kd.C_below C17.out hb)); (try replace B19 := Aside0.mk (blk_below B19.out hb)); (try replace C19 := Aside0.mk (Kd.C_below C19.out hb)); (try replace B21 := Aside0.mk (blk_below B21.out hb)); (try replace C21 := Aside0.mk (Kd.C_below C21.out hb)); have B21 := B21'; clear B21' hb hbox hfar; have z12_0 : W21.cell? ⟨g12, 0, none⟩ = some (.int .i64 n) := (blk_cell B12.out 0).trans rfl; have z12_1 : W21.cell? ⟨g12, 1, none⟩ = some (.slice A12 X12.length c12) := (blk_cell B12.out 1).trans rfl; have y12_0 := blk_frozen B12.out 0; have y12_1 := blk_frozen B12.out 1; have z6_0 : W21.cell? ⟨g6, 0, none⟩ = some (.int .i64 n) := (blk_cell B6.out 0).trans rfl; have z6_1 : W21.cell? ⟨g6, 1, none⟩ = some (.slice A6 X6.length c6) := (blk_cell B6.out 1).trans rfl; have y6_0 := blk_frozen B6.out 0; have y6_1 := blk_frozen B6.out 1)
    | (go_at_call 22; (with_reducible refine (vivariumlaw02_equal.calls k n A12 c12 X12 n A6 c6 X6 true _ C12.out L12.out C6.out L6.out E0.out).mono ?_); rintro e wq0 ⟨rfl, hb⟩; (try replace HB := Aside0.mk (below_step HB.out hb)); (try replace HR0 := Aside0.mk (Kd.C_below HR0.out hb)); (try replace B6 := Aside0.mk (blk_below B6.out hb)); (try replace C6 := Aside0.mk (Kd.C_below C6.out hb)); (try replace B7 := Aside0.mk (blk_below B7.out hb)); (try replace C7 := Aside0.mk (Kd.C_below C7.out hb)); (try replace B9 := Aside0.mk (blk_below B9.out hb)); (try replace C9 := Aside0.mk (Kd.C_below C9.out hb)); (try replace B12 := Aside0.mk (blk_below B12.out hb)); (try replace C12 := Aside0.mk (Kd.C_below C12.out hb)); (try replace B15 := Aside0.mk (blk_below B15.out hb)); (try replace C15 := Aside0.mk (Kd.C_below C15.out hb)); (try replace B17 := Aside0.mk (blk_below B17.out hb)); (try replace C17 := Aside0.mk (Kd.C_below C17.out hb)); (try replace B19 := Aside0.mk (blk_below B19.out hb)); (try replace C19 := Aside0.mk (Kd.C_below C19.out hb)); (try replace B21 := Aside0.mk (blk_below B21.out hb)); (try replace C21 := Aside0.mk (Kd.C_below C21.out hb)); clear hb; (try clear z12_0 z12_1 y12_0 y12_1); (try clear z6_0 z6_1 y6_0 y6_1); have z17_0 : wq0.cell? ⟨g17, 0, none⟩ = some (.int .i64 n) := (blk_cell B17.out 0).trans rfl; have z17_1 : wq0.cell? ⟨g17, 1, none⟩ = some (.slice A17 X17.length c17) := (blk_cell B17.out 1).trans rfl; have y17_0 := blk_frozen B17.out 0; have y17_1 := blk_frozen B17.out 1; have z6_0 : wq0.cell? ⟨g6, 0, none⟩ = some (.int .i64 n) := (blk_cell B6.out 0).trans rfl; have z6_1 : wq0.cell? ⟨g6, 1, none⟩ = some (.slice A6 X6.length c6) := (blk_cell B6.out 1).trans rfl; have y6_0 := blk_frozen B6.out 0; have y6_1 := blk_frozen B6.out 1)
    | (go_at_call 22; (with_reducible refine (vivariumlaw02_equal.calls k n A17 c17 X17 n A6 c6 X6 true _ C17.out L17.out C6.out L6.out E1.out).mono ?_); rintro e wq1 ⟨rfl, hb⟩; (try replace HB := Aside0.mk (below_step HB.out hb)); (try replace HR0 := Aside0.mk (Kd.C_below HR0.out hb)); (try replace B6 := Aside0.mk (blk_below B6.out hb)); (try replace C6 := Aside0.mk (Kd.C_below C6.out hb)); (try replace B7 := Aside0.mk (blk_below B7.out hb)); (try replace C7 := Aside0.mk (Kd.C_below C7.out hb)); (try replace B9 := Aside0.mk (blk_below B9.out hb)); (try replace C9 := Aside0.mk (Kd.C_below C9.out hb)); (try replace B12 := Aside0.mk (blk_below B12.out hb)); (try replace C12 := Aside0.mk (Kd.C_below C12.out hb)); (try replace B15 := Aside0.mk (blk_below B15.out hb)); (try replace C15 := Aside0.mk (Kd.C_below C15.out hb)); (try replace B17 := Aside0.mk (blk_below B17.out hb)); (try replace C17 := Aside0.mk (Kd.C_below C17.out hb)); (try replace B19 := Aside0.mk (blk_below B19.out hb)); (try replace C19 := Aside0.mk (Kd.C_below C19.out hb)); (try replace B21 := Aside0.mk (blk_below B21.out hb)); (try replace C21 := Aside0.mk (Kd.C_below C21.out hb)); clear hb; (try clear z17_0 z17_1 y17_0 y17_1); (try clear z6_0 z6_1 y6_0 y6_1); have z19_0 : wq1.cell? ⟨g19, 0, none⟩ = some (.int .i64 n) := (blk_cell B19.out 0).trans rfl; have z19_1 : wq1.cell? ⟨g19, 1, none⟩ = some (.slice A19 X19.length c19) := (blk_cell B19.out 1).trans rfl; have y19_0 := blk_frozen B19.out 0; have y19_1 := blk_frozen B19.out 1; have z21_0 : wq1.cell? ⟨g21, 0, none⟩ = some (.int .i64 n) := (blk_cell B21.out 0).trans rfl; have z21_1 : wq1.cell? ⟨g21, 1, none⟩ = some (.slice A21 X21.length c21) := (blk_cell B21.out 1).trans rfl; have y21_0 := blk_frozen B21.out 0; have y21_1 := blk_frozen B21.out 1)
    | (go_at_call 22; (with_reducible refine (vivariumlaw02_equal.calls k n A19 c19 X19 n A21 c21 X21 true _ C19.out L19.out C21.out L21.out E2.out).mono ?_); rintro e wq2 ⟨rfl, hb⟩; (try replace HB := Aside0.mk (below_step HB.out hb)); (try replace HR0 := Aside0.mk (Kd.C_below HR0.out hb)); (try replace B6 := Aside0.mk (blk_below B6.out hb)); (try replace C6 := Aside0.mk (Kd.C_below C6.out hb)); (try replace B7 := Aside0.mk (blk_below B7.out hb)); (try replace C7 := Aside0.mk (Kd.C_below C7.out hb)); (try replace B9 := Aside0.mk (blk_below B9.out hb)); (try replace C9 := Aside0.mk (Kd.C_below C9.out hb)); (try replace B12 := Aside0.mk (blk_below B12.out hb)); (try replace C12 := Aside0.mk (Kd.C_below C12.out hb)); (try replace B15 := Aside0.mk (blk_below B15.out hb)); (try replace C15 := Aside0.mk (Kd.C_below C15.out hb)); (try replace B17 := Aside0.mk (blk_below B17.out hb)); (try replace C17 := Aside0.mk (Kd.C_below C17.out hb)); (try replace B19 := Aside0.mk (blk_below B19.out hb)); (try replace C19 := Aside0.mk (Kd.C_below C19.out hb)); (try replace B21 := Aside0.mk (blk_below B21.out hb)); (try replace C21 := Aside0.mk (Kd.C_below C21.out hb)); clear hb; (try clear z19_0 z19_1 y19_0 y19_1); (try clear z21_0 z21_1 y21_0 y21_1)))
  go_ret
  exact ⟨rfl, HB.out⟩
end Go.Proofs.YtlghmadoogblcaaDoor.There
end
section
namespace Go.Proofs.YtlghmadoogblcaaDoor.Bits
open Go Go.RowKit Go.Proofs.YtlghmadoogblcaaDoor.PW Go.Proofs.YtlghmadoogblcaaDoorW.PrintWords Go.Proofs.YtlghmadoogblcaaDoorW.PrintLast Go.Proofs.YtlghmadoogblcaaDoorW.PrintMore
set_option maxRecDepth 100000
theorem wrapU_small (n : Nat) (h : n < 18446744073709551616) : IntKind.u64.wrap (n : Int) = (n : Int) := by
  rw [IntKind.wrap_u64]; omega
def bit (n i : Nat) : Nat := (n.testBit i).toNat
theorem shr_nat (n i : Nat) (hi : i ≤ 64) : shr .u64 (n : Int) (i : Int) = ((n / 2 ^ i : Nat) : Int) := by
  unfold shr
  rw [Int.toNat_natCast, Nat.min_eq_left (by simpa [IntKind.bits] using hi)]
  simp
theorem bit_div (n i : Nat) : n / 2 ^ i % 2 = bit n i := by
  unfold bit; rw [Nat.toNat_testBit]
theorem and_bit (n i : Nat) (hn : n < 18446744073709551616) (hi : i ≤ 64) : Go.bits .and .u64 (shr .u64 (n : Int) (i : Int)) 1 = (bit n i : Int) := by
  rw [shr_nat n i hi, show (1 : Int) = ((1 : Nat) : Int) from rfl,
    bits_and_u64_nat _ _ (Nat.lt_of_le_of_lt (Nat.div_le_self _ _) hn) (by decide), Nat.and_one_is_mod, bit_div]
theorem shl_bit (b i : Nat) (hb : b < 2) (hi : i < 64) : shl .u64 (b : Int) (i : Int) = ((b * 2 ^ i : Nat) : Int) := by
  unfold shl
  rw [Int.toNat_natCast, Nat.min_eq_left (by simp [IntKind.bits]; omega)]
  have : b * 2 ^ i < 18446744073709551616 := by
    have h1 : 2 ^ i ≤ 2 ^ 63 := Nat.pow_le_pow_right (by decide) (by omega)
    have h2 : b * 2 ^ i ≤ 1 * 2 ^ 63 := Nat.mul_le_mul (by omega) h1
    omega
  have e : (b : Int) * 2 ^ i = ((b * 2 ^ i : Nat) : Int) := by simp
  rw [e, wrapU_small _ this]
end Go.Proofs.YtlghmadoogblcaaDoor.Bits
end
section
namespace Go.Proofs.YtlghmadoogblcaaDoor.Rowp
open Go Go.RowKit Go.Proofs.YtlghmadoogblcaaDoor.PW Go.Proofs.YtlghmadoogblcaaDoorW.PrintWords Go.Proofs.YtlghmadoogblcaaDoorW.PrintLast Go.Proofs.YtlghmadoogblcaaDoorW.PrintMore Go.Proofs.YtlghmadoogblcaaDoor.Bits
set_option maxRecDepth 100000
set_option linter.unusedVariables false
def rowOf (m : Nat) (W : Nat → Nat) : List Int := (List.range m).map fun i => (W i : Int)
@[simp] theorem rowOf_len (m : Nat) (W : Nat → Nat) : (rowOf m W).length = m := by simp [rowOf]
theorem rowOf_get (m : Nat) (W : Nat → Nat) (i : Nat) (h : i < m) : (rowOf m W)[i]? = some (W i : Int) := by simp [rowOf, h]
theorem rowOf_rd (m : Nat) (W : Nat → Nat) (i : Nat) (h : i < m) : rd (rowOf m W) (i : Int) = (W i : Int) := by
  simp [rd, List.getD_eq_getElem?_getD, rowOf_get m W i h]
theorem rowOf_congr {m : Nat} {W W' : Nat → Nat} (h : ∀ i, i < m → W i = W' i) : rowOf m W = rowOf m W' := by
  unfold rowOf
  exact List.map_congr_left (fun i hi => by rw [h i (List.mem_range.1 hi)])
theorem rowOf_set (m : Nat) (W : Nat → Nat) (i x : Nat) : (rowOf m W).set ((i : Int)).toNat (x : Int) = rowOf m (fun t => if t = i then x else W t) := by
  apply List.ext_getElem?
  intro j
  rw [Int.toNat_natCast, List.getElem?_set]
  by_cases hj : j < m
  · rw [rowOf_get m _ j hj, rowOf_get m _ j hj]
    by_cases e : i = j
    · subst e; simp [hj]
    · simp [e, Ne.symm e]
  · have h1 : (rowOf m W)[j]? = none := by simp [rowOf]; omega
    have h2 : (rowOf m fun t => if t = i then x else W t)[j]? = none := by simp [rowOf]; omega
    rw [h1, h2]
    by_cases e : i = j
    · subst e; simp [hj]
    · simp [e]
def nw (n : Nat) : Nat := (n + 63) / 64
def ones : Nat := 18446744073709551615
def mask (n : Nat) : Nat := if n % 64 = 0 then ones else 2 ^ (n % 64) - 1
theorem mask_lt (n : Nat) : mask n < 18446744073709551616 := by
  unfold mask ones
  split
  · decide
  · have : 2 ^ (n % 64) ≤ 2 ^ 63 := Nat.pow_le_pow_right (by decide) (by omega)
    omega
structure Good (n : Nat) (W : Nat → Nat) : Prop where
  le : n ≤ 65538
  lt : ∀ i, i < nw n → W i < 18446744073709551616
  last : 0 < n → W (nw n - 1) &&& mask n = W (nw n - 1)
theorem w64 (x : Int) (h : -9223372036854775808 ≤ x ∧ x ≤ 9223372036854775807) : wrap64 x = x := by unfold wrap64; omega
theorem nwI (n : Nat) (h : n ≤ 65538) : wrap64 (Int.tdiv (wrap64 ((n : Int) + 63)) 64) = ((nw n : Nat) : Int) := by
  rw [w64 ((n : Int) + 63) (by omega)]
  have : Int.tdiv ((n : Int) + 63) 64 = ((nw n : Nat) : Int) := by
    unfold nw
    rw [show (n : Int) + 63 = ((n + 63 : Nat) : Int) by omega]
    exact (Int.ofNat_tdiv _ _).symm
  rw [this, w64]
  unfold nw; omega
theorem last_spec (n : Nat) : words_last.f (n : Int) = some ((mask n : Nat) : Int) := by
  unfold words_last.f mask
  have e : Int.tmod (n : Int) 64 = ((n % 64 : Nat) : Int) := (Int.ofNat_tmod _ _).symm
  rw [e]
  by_cases h : n % 64 = 0
  · rw [if_pos (by omega), if_pos h]; rfl
  · rw [if_neg (by omega), if_pos (by omega), if_neg h, show (1 : Int) = ((1 : Nat) : Int) from rfl, shl_bit 1 (n % 64) (by decide) (by omega), Nat.one_mul]
    have h1 : 2 ^ (n % 64) ≤ 2 ^ 63 := Nat.pow_le_pow_right (by decide) (by omega)
    have h2 : 0 < 2 ^ (n % 64) := Nat.pow_pos (by decide)
    have e2 : ((2 ^ (n % 64) : Nat) : Int) - ((1 : Nat) : Int) = ((2 ^ (n % 64) - 1 : Nat) : Int) := by omega
    rw [e2, wrapU_small _ (by omega)]
theorem andNot_zero (x m : Nat) (hx : x < 18446744073709551616) (hm : m < 18446744073709551616) (h : x &&& m = x) : Go.bits .andNot .u64 (x : Int) (m : Int) = 0 := by
  have h1 : (BitVec.ofInt 64 (x : Int)).toNat = x := by
    rw [BitVec.ofInt_natCast, BitVec.toNat_ofNat]; exact Nat.mod_eq_of_lt (by omega)
  have h2 : (BitVec.ofInt 64 (m : Int)).toNat = m := by
    rw [BitVec.ofInt_natCast, BitVec.toNat_ofNat]; exact Nat.mod_eq_of_lt (by omega)
  have hb : BitVec.ofInt 64 (x : Int) &&& BitVec.ofInt 64 (m : Int) = BitVec.ofInt 64 (x : Int) := by
    apply BitVec.eq_of_toNat_eq
    rw [BitVec.toNat_and, h1, h2, h]
  have hz : BitVec.ofInt 64 (x : Int) &&& ~~~ BitVec.ofInt 64 (m : Int) = 0#64 := by
    rw [← hb]
    generalize BitVec.ofInt 64 (x : Int) = X
    generalize BitVec.ofInt 64 (m : Int) = M
    ext i hi
    simp
  show IntKind.u64.wrap ((BitVec.ofInt 64 (x : Int) &&& ~~~ BitVec.ofInt 64 (m : Int)).toNat : Int) = 0
  rw [hz]; rfl
theorem valid_spec {n : Nat} {W : Nat → Nat} (g : Good n W) : words_Valid.f (n : Int) (rowOf (nw n) W) = some true := by
  unfold words_Valid.f
  have hle := g.le
  rw [if_neg (by omega), if_neg (by omega), nwI n hle, rowOf_len, if_pos rfl]
  by_cases h0 : nw n = 0
  · rw [if_pos (by omega)]
  · rw [if_neg (by omega)]
    have hm : nw n ≤ 1025 := by unfold nw; omega
    rw [w64 (((nw n : Nat) : Int) - 1) (by omega), if_pos (by omega), if_pos (by omega), last_spec]
    simp only [Option.bind_some]
    have e : ((nw n : Nat) : Int) - 1 = ((nw n - 1 : Nat) : Int) := by omega
    have hn : 0 < n := by unfold nw at h0; omega
    rw [e, rowOf_rd _ _ _ (by omega), andNot_zero _ _ (g.lt _ (by omega)) (mask_lt n) (g.last hn)]
    rfl
theorem blank_spec (n : Nat) (h : n ≤ 65538) : words_blank.f (n : Int) = some ((n : Int), List.replicate (nw n) 0) := by
  unfold words_blank.f
  have hm : nw n ≤ 1025 := by unfold nw; omega
  rw [nwI n h, if_pos (by omega), if_pos (by omega), Int.toNat_natCast]
theorem clone_spec (n : Nat) (h : n ≤ 65538) (R : List Int) (hR : R.length = nw n) : words_clone.f (n : Int) R = some ((n : Int), R) := by
  unfold words_clone.f
  rw [blank_spec n h]
  simp [hR, List.take_of_length_le (Nat.le_of_eq hR)]
theorem bits_or_n (a b : Nat) (ha : a < 18446744073709551616) (hb : b < 18446744073709551616) : a ||| b < 18446744073709551616 := Nat.or_lt_two_pow (n := 64) ha hb
theorem and_ones (x : Nat) (h : x < 18446744073709551616) : x &&& ones = x := by
  have := Nat.and_two_pow_sub_one_eq_mod x 64
  rw [show ones = 2 ^ 64 - 1 from rfl, this, Nat.mod_eq_of_lt h]
theorem ones_bit (i : Nat) : ones.testBit i = decide (i < 64) := by
  rw [show ones = 2 ^ 64 - 1 from rfl, Nat.testBit_two_pow_sub_one]
theorem high (x i : Nat) (h : x < 18446744073709551616) (hi : ¬ i < 64) : x.testBit i = false :=
  Nat.testBit_lt_two_pow (Nat.lt_of_lt_of_le h (Nat.pow_le_pow_right (n := 2) (i := 64) (by decide) (by omega)))
theorem good_zero (n : Nat) (h : n ≤ 65538) : Good n (fun _ => 0) := ⟨h, fun _ _ => by decide, fun _ => by simp⟩
theorem rowOf_zero (m : Nat) : rowOf m (fun _ => 0) = List.replicate m (0 : Int) := by
  apply List.ext_getElem?
  intro i
  by_cases h : i < m
  · rw [rowOf_get m _ i h, List.getElem?_replicate, if_pos h]; rfl
  · have : (rowOf m fun _ => 0)[i]? = none := by simp [rowOf]; omega
    rw [this, List.getElem?_replicate, if_neg h]
def setBit (W : Nat → Nat) (i t : Nat) : Nat := if t = i / 64 then W (i / 64) ||| 2 ^ (i % 64) else W t
theorem pow_lt64 (i : Nat) (h : i < 64) : 2 ^ i < 18446744073709551616 := by
  have : 2 ^ i ≤ 2 ^ 63 := Nat.pow_le_pow_right (by decide) (by omega)
  omega
theorem good_setBit {n : Nat} {W : Nat → Nat} (g : Good n W) (i : Nat) (hi : i < n) : Good n (setBit W i) := by
  refine ⟨g.le, fun t ht => ?_, fun h => ?_⟩
  · unfold setBit
    split
    · rename_i e; subst e
      exact bits_or_n _ _ (g.lt _ ht) (pow_lt64 _ (Nat.mod_lt _ (by decide)))
    · exact g.lt t ht
  · unfold setBit
    split
    · rename_i e
      rw [Nat.and_or_distrib_right]
      have g1 := g.last h
      rw [e] at g1
      rw [g1]
      congr 1
      unfold mask
      split
      · exact and_ones _ (pow_lt64 _ (Nat.mod_lt _ (by decide)))
      · rename_i h0
        rw [Nat.and_two_pow_sub_one_eq_mod]
        refine Nat.mod_eq_of_lt (Nat.pow_lt_pow_right (by decide) ?_)
        unfold nw at e
        omega
    · exact g.last h
theorem of_loop {n : Nat} {l : List Bool} (hl : l.length = n) :
    ∀ (j k i : Nat) (iI : Int) (W : Nat → Nat), iI = (i : Int) → j < k → i + j = n → Good n W → ∃ W', Good n W' ∧ words_Of.l0 k l (n : Int) iI (n : Int) (rowOf (nw n) W) = some ((n : Int), rowOf (nw n) W', 0)
  | 0, k + 1, i, _, W, rfl, _, h, g => ⟨W, g, by rw [words_Of.l0, if_neg (by omega)]⟩
  | j + 1, k + 1, i, _, W, rfl, hk, h, g => by
    have hle := g.le
    have hi : i / 64 < nw n := by unfold nw; omega
    have hm : nw n ≤ 1025 := by unfold nw; omega
    have e1 : wrap64 ((i : Int) + 1) = ((i + 1 : Nat) : Int) := by rw [w64 _ (by omega)]; omega
    rw [words_Of.l0, if_pos (by omega), if_pos (by omega), if_pos (by omega)]
    by_cases hb : rdOf false l (i : Int) = true
    · have e2 : Int.tdiv (i : Int) 64 = ((i / 64 : Nat) : Int) := (Int.ofNat_tdiv _ _).symm
      have e3 : Int.tmod (i : Int) 64 = ((i % 64 : Nat) : Int) := (Int.ofNat_tmod _ _).symm
      rw [if_pos hb, e2, e3, w64 ((i / 64 : Nat) : Int) (by omega), if_pos (by omega), rowOf_len, if_pos (by omega), if_pos (by omega), rowOf_rd _ _ _ hi,
        show (1 : Int) = ((1 : Nat) : Int) from rfl, shl_bit 1 (i % 64) (by decide) (Nat.mod_lt _ (by decide)), Nat.one_mul,
        bits_or_u64_nat _ _ (g.lt _ hi) (pow_lt64 _ (Nat.mod_lt _ (by decide))), rowOf_set]
      rw [show (i : Int) + ((1 : Nat) : Int) = (i : Int) + 1 from rfl, e1]
      obtain ⟨W', g', h'⟩ := of_loop hl j k (i + 1) _ (setBit W i) rfl (by omega) (by omega) (good_setBit g i (by omega))
      exact ⟨W', g', h'⟩
    · rw [if_neg hb, e1]
      exact of_loop hl j k (i + 1) _ W rfl (by omega) (by omega) g
theorem of_spec {l : List Bool} (hl : l.length ≤ 65538) (k : Nat) (hk : 65538 < k) : ∃ W, Good l.length W ∧ words_Of.f k l = some ((l.length : Int), rowOf (nw l.length) W, 0) := by
  obtain ⟨W, g, h⟩ := of_loop (n := l.length) (l := l) rfl l.length k 0 0 (fun _ => 0) rfl (by omega) (by omega) (good_zero _ hl)
  refine ⟨W, g, ?_⟩
  unfold words_Of.f
  rw [if_neg (by omega), blank_spec _ hl, Option.bind_some]
  rw [rowOf_zero] at h
  exact h
end Go.Proofs.YtlghmadoogblcaaDoor.Rowp
end
section
namespace Go.Proofs.YtlghmadoogblcaaDoor.PB
open Go.RowKit Go.Proofs.YtlghmadoogblcaaDoorW.PrintWords Go.Proofs.YtlghmadoogblcaaDoorW.PrintLast Go.Proofs.YtlghmadoogblcaaDoorW.PrintMore
attribute [local go_sem] max2_int min2_int max_two min_two max_three min_three max_four min_four   -- for this text's walks alone
set_option linter.unusedVariables false
set_option linter.unusedSimpArgs false
def errW : Option Int → Value
  | none => .nilIface
  | some c => .iface 0 (.int .i64 c)
theorem errW_none : errW none = .nilIface := rfl
theorem errW_some (c : Int) : errW (some c) = .iface 0 (.int .i64 c) := rfl
theorem info4 : (Tryd.prog.info? 4).map (fun i => (i.zero, i.size, i.bytes)) = some (some (.bool false), 1, 1) := by kernel_rfl
theorem info58 : (Tryd.prog.info? 58).map (fun i => (i.zero, i.size, i.bytes)) = some (some (.int .u64 0), 1, 8) := by kernel_rfl
end Go.Proofs.YtlghmadoogblcaaDoor.PB
end
section
namespace Go.Proofs.YtlghmadoogblcaaDoor.PB
open Go.RowKit Go.Proofs.YtlghmadoogblcaaDoorW.PrintWords Go.Proofs.YtlghmadoogblcaaDoorW.PrintLast Go.Proofs.YtlghmadoogblcaaDoorW.PrintMore
attribute [local go_sem] max2_int min2_int max_two min_two max_three min_three max_four min_four   -- for this text's walks alone
set_option linter.unusedVariables false
set_option linter.unusedSimpArgs false
end Go.Proofs.YtlghmadoogblcaaDoor.PB
end
section
namespace Go.Proofs.YtlghmadoogblcaaDoor.PB
open Go.RowKit Go.Proofs.YtlghmadoogblcaaDoorW.PrintWords Go.Proofs.YtlghmadoogblcaaDoorW.PrintLast Go.Proofs.YtlghmadoogblcaaDoorW.PrintMore
attribute [local go_sem] max2_int min2_int max_two min_two max_three min_three max_four min_four   -- for this text's walks alone
set_option linter.unusedVariables false
set_option linter.unusedSimpArgs false
end Go.Proofs.YtlghmadoogblcaaDoor.PB
end
section
namespace Go.Proofs.YtlghmadoogblcaaDoor.PB
open Go.RowKit Go.Proofs.YtlghmadoogblcaaDoorW.PrintWords Go.Proofs.YtlghmadoogblcaaDoorW.PrintLast Go.Proofs.YtlghmadoogblcaaDoorW.PrintMore
attribute [local go_sem] max2_int min2_int max_two min_two max_three min_three max_four min_four   -- for this text's walks alone
set_option linter.unusedVariables false
set_option linter.unusedSimpArgs false
end Go.Proofs.YtlghmadoogblcaaDoor.PB
end
section
namespace Go.Proofs.YtlghmadoogblcaaDoor.RefPlain
open Go Go.RowKit Go.Proofs.YtlghmadoogblcaaDoor.PW Go.Proofs.YtlghmadoogblcaaDoor.PB Go.Proofs.YtlghmadoogblcaaDoorW.PrintWords Go.Proofs.YtlghmadoogblcaaDoorW.PrintLast Go.Proofs.YtlghmadoogblcaaDoorW.PrintMore Go.Proofs.YtlghmadoogblcaaDoor.Bits Go.Proofs.YtlghmadoogblcaaDoor.Rowp
set_option maxRecDepth 100000
set_option linter.unusedVariables false
def bitAt (W : Nat → Nat) (i : Nat) : Bool := (W (i / 64)).testBit (i % 64)
theorem nw_le {n : Nat} (h : n ≤ 65538) : nw n ≤ 1025 := by unfold nw; omega
theorem lt_nw {n i : Nat} (h : i < n) : i / 64 < nw n := by unfold nw; omega
theorem n_le (n : Nat) : n ≤ 64 * nw n := by unfold nw; omega
theorem mask_bit (n b : Nat) : (mask n).testBit b = if n % 64 = 0 then decide (b < 64) else decide (b < n % 64) := by
  unfold mask
  split
  · exact ones_bit b
  · exact Nat.testBit_two_pow_sub_one _ _
theorem good_high {n : Nat} {W : Nat → Nat} (g : Rowp.Good n W) (i : Nat) (h1 : n ≤ i) (h2 : i < 64 * nw n) : bitAt W i = false := by
  have hn : 0 < n := by
    rcases Nat.eq_zero_or_pos n with h0 | h0
    · subst h0; unfold nw at h2; omega
    · exact h0
  have e : i / 64 = nw n - 1 := by unfold nw at *; omega
  have hl := g.last hn
  unfold bitAt
  rw [e, ← hl, Nat.testBit_and, mask_bit]
  have h3 : n % 64 ≠ 0 := by unfold nw at *; omega
  rw [if_neg h3]
  have h4 : ¬ i % 64 < n % 64 := by unfold nw at *; omega
  simp [h4]
theorem good_of_bits {n : Nat} {W : Nat → Nat} (hn : n ≤ 65538) (hlt : ∀ t, t < nw n → W t < 18446744073709551616) (h : ∀ i, n ≤ i → i < 64 * nw n → bitAt W i = false) : Rowp.Good n W := by
  refine ⟨hn, hlt, fun h0 => Nat.eq_of_testBit_eq fun b => ?_⟩
  rw [Nat.testBit_and, mask_bit]
  have hw := hlt (nw n - 1) (by unfold nw; omega)
  by_cases hb : b < 64
  · by_cases hz : n % 64 = 0
    · rw [if_pos hz, decide_eq_true hb, Bool.and_true]
    · rw [if_neg hz]
      by_cases hb2 : b < n % 64
      · rw [decide_eq_true hb2, Bool.and_true]
      · have := h (64 * (nw n - 1) + b) (by unfold nw at *; omega) (by unfold nw at *; omega)
        unfold bitAt at this
        rw [show (64 * (nw n - 1) + b) / 64 = nw n - 1 by omega, show (64 * (nw n - 1) + b) % 64 = b by omega] at this
        rw [this, Bool.false_and]
  · rw [high _ _ hw hb, Bool.false_and]
theorem row_eq {n : Nat} {V W : Nat → Nat} (gv : Rowp.Good n V) (gw : Rowp.Good n W) (h : ∀ i, i < n → bitAt V i = bitAt W i) : rowOf (nw n) V = rowOf (nw n) W := by
  refine rowOf_congr (fun t ht => Nat.eq_of_testBit_eq fun b => ?_)
  by_cases hb : b < 64
  · have e : bitAt V (64 * t + b) = bitAt W (64 * t + b) := by
      by_cases hi : 64 * t + b < n
      · exact h _ hi
      · rw [good_high gv _ (by omega) (by omega), good_high gw _ (by omega) (by omega)]
    unfold bitAt at e
    rwa [show (64 * t + b) / 64 = t by omega, show (64 * t + b) % 64 = b by omega] at e
  · rw [high _ _ (gv.lt t ht) hb, high _ _ (gw.lt t ht) hb]
theorem tdiv64 (i : Nat) : Int.tdiv (i : Int) 64 = ((i / 64 : Nat) : Int) := (Int.ofNat_tdiv _ _).symm
theorem tmod64 (i : Nat) : Int.tmod (i : Int) 64 = ((i % 64 : Nat) : Int) := (Int.ofNat_tmod _ _).symm
theorem bit_one (x b : Nat) : ((bit x b : Int) == 1) = x.testBit b := by unfold bit; cases x.testBit b <;> rfl
theorem bitAt_setBit (W : Nat → Nat) (i q : Nat) : bitAt (setBit W i) q = (bitAt W q || decide (q = i)) := by
  unfold bitAt setBit
  by_cases e : q / 64 = i / 64
  · rw [if_pos e, Nat.testBit_or, Nat.testBit_two_pow, e]
    congr 1
    exact decide_eq_decide.2 ⟨fun h => by omega, fun h => by rw [h]⟩
  · rw [if_neg e]
    have : ¬ q = i := fun h => e (by rw [h])
    simp [this]
theorem setBit_lt {W : Nat → Nat} {m i : Nat} (h : ∀ t, t < m → W t < 18446744073709551616) : ∀ t, t < m → setBit W i t < 18446744073709551616 := by
  intro t ht
  unfold setBit
  split
  · rename_i e; subst e; exact bits_or_n _ _ (h _ ht) (pow_lt64 _ (Nat.mod_lt _ (by decide)))
  · exact h t ht
end Go.Proofs.YtlghmadoogblcaaDoor.RefPlain
end
section
namespace Go.Proofs.YtlghmadoogblcaaDoor.MovePlain
open Go Go.RowKit Go.Proofs.YtlghmadoogblcaaDoor.PW Go.Proofs.YtlghmadoogblcaaDoorW.PrintWords Go.Proofs.YtlghmadoogblcaaDoorW.PrintLast Go.Proofs.YtlghmadoogblcaaDoorW.PrintMore Go.Proofs.YtlghmadoogblcaaDoor.Bits Go.Proofs.YtlghmadoogblcaaDoor.Rowp Go.Proofs.YtlghmadoogblcaaDoor.RefPlain
set_option maxRecDepth 100000
set_option linter.unusedVariables false
def car (W : Nat → Nat) (c i : Nat) : Nat := if i = 0 then c else W (i - 1) / 9223372036854775808
def upW (W : Nat → Nat) (c t : Nat) : Nat := (W t * 2) % 18446744073709551616 ||| car W c t
def stU (W : Nat → Nat) (c i t : Nat) : Nat := if t < i then upW W c t else W t
def upF (n : Nat) (W : Nat → Nat) (c t : Nat) : Nat := if t = nw n - 1 then upW W c t &&& mask n else upW W c t
theorem car_lt {n : Nat} {W : Nat → Nat} (g : Rowp.Good n W) (c : Nat) (hc : c < 2) (i : Nat) (hi : i ≤ nw n) : car W c i < 2 := by
  unfold car
  split
  · exact hc
  · have := g.lt (i - 1) (by omega)
    omega
theorem upW_lt {n : Nat} {W : Nat → Nat} (g : Rowp.Good n W) (c : Nat) (hc : c < 2) (t : Nat) (ht : t < nw n) : upW W c t < 18446744073709551616 := by
  have := car_lt g c hc t (by omega)
  exact bits_or_n _ _ (Nat.mod_lt _ (by decide)) (by omega)
theorem up_loop {n : Nat} {W : Nat → Nat} (g : Rowp.Good n W) (h0 : 0 < n) (c : Nat) (hc : c < 2) (out : Bool) : ∀ (j k i : Nat) (iI : Int), iI = i → j < k → i + j = nw n →
    words_Up.l0 k out ((car W c i : Nat) : Int) ((nw n : Nat) : Int) iI (n : Int) (rowOf (nw n) (stU W c i)) = some ((n : Int), rowOf (nw n) (upF n W c), out, 0)
  | 0, k + 1, i, _, rfl, _, h => by
    have hm := nw_le g.le
    have hp : 0 < nw n := by unfold nw; omega
    rw [words_Up.l0, if_neg (by omega), rowOf_len, w64 (((nw n : Nat) : Int) - 1) (by omega), if_pos (by omega), if_pos (by omega), last_spec, Option.bind_some]
    have e : ((nw n : Nat) : Int) - 1 = ((nw n - 1 : Nat) : Int) := by omega
    rw [e, rowOf_rd _ _ _ (by omega)]
    have e1 : stU W c i (nw n - 1) = upW W c (nw n - 1) := if_pos (by omega)
    rw [e1, bits_and_u64_nat _ _ (upW_lt g c hc _ (by omega)) (mask_lt n), rowOf_set]
    refine congrArg (fun q => some ((n : Int), q, out, 0)) (rowOf_congr (fun t ht => ?_))
    unfold upF stU
    rw [if_pos (show t < i by omega)]
    by_cases e : t = nw n - 1
    · rw [if_pos e, if_pos e, e]
    · rw [if_neg e, if_neg e]
  | j + 1, k + 1, i, _, rfl, hk, h => by
    have hm := nw_le g.le
    have hw := g.lt i (by omega)
    have e1 : wrap64 ((i : Int) + 1) = ((i + 1 : Nat) : Int) := by rw [w64 _ (by omega)]; omega
    rw [words_Up.l0, if_pos (by omega), if_pos (by omega), rowOf_len, if_pos (by omega), Option.bind_some, rowOf_rd _ _ _ (by omega)]
    have e2 : stU W c i i = W i := if_neg (by omega)
    have e3 : IntKind.u64.wrap ((W i : Int) * 2) = ((W i * 2 % 18446744073709551616 : Nat) : Int) := by
      simp [IntKind.wrap, IntKind.signed, IntKind.bits]
    have e4 : (W i : Int) / 9223372036854775808 = ((car W c (i + 1) : Nat) : Int) := by
      unfold car
      rw [if_neg (by omega), Nat.add_sub_cancel]
      omega
    rw [e2, e3, e4, rowOf_set, rowOf_rd _ _ _ (by omega), if_pos rfl, bits_or_u64_nat _ _ (Nat.mod_lt _ (by decide)) (by have := car_lt g c hc i (by omega); omega), rowOf_set, e1]
    have e5 : rowOf (nw n) (fun t => if t = i then W i * 2 % 18446744073709551616 ||| car W c i else if t = i then W i * 2 % 18446744073709551616 else stU W c i t) = rowOf (nw n) (stU W c (i + 1)) := by
      refine rowOf_congr (fun t ht => ?_)
      unfold stU
      by_cases e : t = i
      · subst e
        rw [if_pos rfl, if_pos (by omega)]
        rfl
      · rw [if_neg e, if_neg e]
        by_cases e6 : t < i
        · rw [if_pos e6, if_pos (by omega)]
        · rw [if_neg e6, if_neg (by omega)]
    rw [e5]
    exact up_loop g h0 c hc out j k (i + 1) _ rfl (by omega) (by omega)
theorem car_bit {n : Nat} {W : Nat → Nat} (g : Rowp.Good n W) (c : Nat) (hc : c < 2) (t b : Nat) (ht : t < nw n) : (car W c t).testBit b = (decide (b = 0) && if t = 0 then c == 1 else (W (t - 1)).testBit 63) := by
  have h2 := car_lt g c hc t (by omega)
  by_cases hb : b = 0
  · subst hb
    rw [decide_eq_true rfl, Bool.true_and]
    unfold car
    split
    · rcases (show c = 0 ∨ c = 1 by omega) with rfl | rfl <;> rfl
    · have e : (W (t - 1) / 2 ^ 63).testBit 0 = (W (t - 1)).testBit (0 + 63) := Nat.testBit_div_two_pow _ _
      exact e
  · rw [decide_eq_false hb, Bool.false_and]
    refine Nat.testBit_lt_two_pow (Nat.lt_of_lt_of_le h2 ?_)
    exact Nat.pow_le_pow_right (n := 2) (i := 1) (by decide) (by omega)
theorem upW_bit {n : Nat} {W : Nat → Nat} (g : Rowp.Good n W) (c : Nat) (hc : c < 2) (i : Nat) (hi : i < 64 * nw n) : (upW W c (i / 64)).testBit (i % 64) = if i = 0 then c == 1 else bitAt W (i - 1) := by
  have hb : i % 64 < 64 := Nat.mod_lt _ (by decide)
  unfold upW
  rw [Nat.testBit_or, car_bit g c hc _ _ (by omega), show (18446744073709551616 : Nat) = 2 ^ 64 from rfl, Nat.testBit_mod_two_pow, decide_eq_true hb, Bool.true_and, show W (i / 64) * 2 = W (i / 64) * 2 ^ 1 from rfl, Nat.testBit_mul_two_pow]
  by_cases h0 : i % 64 = 0
  · rw [h0, decide_eq_true rfl, Bool.true_and, show decide ((0 : Nat) ≥ 1) = false from rfl, Bool.false_and, Bool.false_or]
    by_cases h1 : i = 0
    · subst h1; rfl
    · rw [if_neg h1, if_neg (by omega)]
      unfold bitAt
      rw [show (i - 1) / 64 = i / 64 - 1 by omega, show (i - 1) % 64 = 63 by omega]
  · rw [decide_eq_false h0, Bool.false_and, Bool.or_false, decide_eq_true (show i % 64 ≥ 1 by omega), Bool.true_and, if_neg (by omega)]
    unfold bitAt
    rw [show (i - 1) / 64 = i / 64 by omega, show (i - 1) % 64 = i % 64 - 1 by omega]
theorem upF_bit {n : Nat} {W : Nat → Nat} (g : Rowp.Good n W) (c : Nat) (hc : c < 2) (i : Nat) (hi : i < 64 * nw n) : bitAt (upF n W c) i = (decide (i < n) && if i = 0 then c == 1 else bitAt W (i - 1)) := by
  have hu := upW_bit g c hc i hi
  have hb : i % 64 < 64 := Nat.mod_lt _ (by decide)
  unfold bitAt upF
  by_cases e : i / 64 = nw n - 1
  · rw [if_pos e, Nat.testBit_and, hu, Bool.and_comm, mask_bit]
    unfold bitAt
    congr 1
    by_cases hz : n % 64 = 0
    · rw [if_pos hz]
      refine decide_eq_decide.2 ⟨fun _ => ?_, fun _ => hb⟩
      unfold nw at hi; omega
    · rw [if_neg hz]
      refine decide_eq_decide.2 ⟨fun h => ?_, fun h => ?_⟩ <;> · unfold nw at *; omega
  · rw [if_neg e, hu, decide_eq_true (show i < n by unfold nw at *; omega), Bool.true_and]
    rfl
theorem up_good {n : Nat} {W : Nat → Nat} (g : Rowp.Good n W) (c : Nat) (hc : c < 2) : Rowp.Good n (upF n W c) := by
  refine good_of_bits g.le (fun t ht => ?_) (fun i h1 h2 => ?_)
  · unfold upF
    split
    · exact Nat.lt_of_le_of_lt Nat.and_le_left (upW_lt g c hc t ht)
    · exact upW_lt g c hc t ht
  · rw [upF_bit g c hc i h2, decide_eq_false (by omega), Bool.false_and]
def topB (n : Nat) (W : Nat → Nat) (inn : Bool) : Bool := if n = 0 then inn else bitAt W (n - 1)
theorem up_spec {n : Nat} {W : Nat → Nat} (g : Rowp.Good n W) (inn : Bool) (k : Nat) (hk : 1030 < k) :
    ∃ W', Rowp.Good n W' ∧ (∀ i, i < n → bitAt W' i = if i = 0 then inn else bitAt W (i - 1)) ∧ words_Up.f k (n : Int) (rowOf (nw n) W) inn = some ((n : Int), rowOf (nw n) W', topB n W inn, 0) := by
  by_cases h0 : n = 0
  · subst h0
    refine ⟨W, g, fun i hi => by omega, ?_⟩
    unfold words_Up.f
    rw [valid_spec g, Option.bind_some, if_pos rfl, if_pos (show ((0 : Nat) : Int) = 0 from rfl), show words_blank.f 0 = some (((0 : Nat) : Int), List.replicate (nw 0) 0) from blank_spec 0 (by decide), Option.bind_some]
    rfl
  · have hle := g.le
    have hm := nw_le hle
    have hn1 : n - 1 < n := by omega
    have h1 := lt_nw hn1
    have e1 : (n : Int) - 1 = ((n - 1 : Nat) : Int) := by omega
    have hst : ∀ c, rowOf (nw n) W = rowOf (nw n) (stU W c 0) := fun c => rowOf_congr (fun t _ => by unfold stU; rw [if_neg (by omega)])
    have hmain : ∀ c : Nat, c < 2 → words_Up.j0 k (bitAt W (n - 1)) (c : Int) (n : Int) (rowOf (nw n) W) = some ((n : Int), rowOf (nw n) (upF n W c), bitAt W (n - 1), 0) := by
      intro c hc
      obtain ⟨k, rfl⟩ : ∃ q, k = q + 1 := ⟨k - 1, by omega⟩
      rw [words_Up.j0, rowOf_len, hst c]
      have h := up_loop g (by omega) c hc (bitAt W (n - 1)) (nw n) k 0 _ rfl (by omega) (by omega)
      rwa [show car W c 0 = c from if_pos rfl] at h
    have hf : words_Up.f k (n : Int) (rowOf (nw n) W) inn = some ((n : Int), rowOf (nw n) (upF n W inn.toNat), topB n W inn, 0) := by
      unfold words_Up.f
      rw [valid_spec g, Option.bind_some, if_pos rfl, if_neg (by omega), w64 ((n : Int) - 1) (by omega), e1, tdiv64, tmod64, w64 (((n - 1) / 64 : Nat) : Int) (by omega), if_pos (by omega), rowOf_len, if_pos (by omega), if_pos (by omega), clone_spec n hle _ (rowOf_len _ _), Option.bind_some,
        rowOf_rd _ _ _ h1, and_bit _ _ (g.lt _ h1) (by omega), bit_one]
      unfold topB
      rw [if_neg h0]
      cases inn
      · rw [if_neg (by decide)]
        exact hmain 0 (by decide)
      · rw [if_pos rfl]
        exact hmain 1 (by decide)
    have hc2 : inn.toNat < 2 := by cases inn <;> decide
    refine ⟨_, up_good g inn.toNat hc2, fun i hi => ?_, hf⟩
    rw [upF_bit g _ hc2 i (by have := n_le n; omega), decide_eq_true hi, Bool.true_and]
    cases inn <;> rfl
def dnW (m : Nat) (W : Nat → Nat) (t : Nat) : Nat := if t + 1 < m then W t / 2 ||| (W (t + 1) % 2 * 9223372036854775808) else W t / 2
def stD (m : Nat) (W : Nat → Nat) (i t : Nat) : Nat := if t < i then dnW m W t else W t
theorem dnW_lt {n : Nat} {W : Nat → Nat} (g : Rowp.Good n W) (t : Nat) (ht : t < nw n) : dnW (nw n) W t < 18446744073709551616 := by
  have := g.lt t ht
  unfold dnW
  split
  · exact bits_or_n _ _ (by omega) (by omega)
  · omega
def dnF (n : Nat) (W : Nat → Nat) (inn : Bool) : Nat → Nat := if inn then setBit (dnW (nw n) W) (n - 1) else dnW (nw n) W
theorem down_loop {n : Nat} {W : Nat → Nat} (g : Rowp.Good n W) (h0 : 0 < n) (inn out : Bool) : ∀ (j k i : Nat) (iI : Int), iI = i → j < k → i + j = nw n →
    words_Down.l0 k inn out ((nw n : Nat) : Int) iI (n : Int) (rowOf (nw n) (stD (nw n) W i)) = some ((n : Int), rowOf (nw n) (dnF n W inn), out, 0)
  | 0, k + 1, i, _, rfl, _, h => by
    have hm := nw_le g.le
    have hle := g.le
    have hn1 : n - 1 < n := by omega
    have h1 := lt_nw hn1
    have e1 : (n : Int) - 1 = ((n - 1 : Nat) : Int) := by omega
    have e2 : rowOf (nw n) (stD (nw n) W i) = rowOf (nw n) (dnW (nw n) W) := rowOf_congr (fun t ht => if_pos (by omega))
    rw [words_Down.l0, if_neg (by omega), e2]
    unfold dnF
    cases inn
    · rw [if_neg (by decide), if_neg (by decide)]
    · rw [if_pos rfl, if_pos rfl, w64 ((n : Int) - 1) (by omega), e1, tdiv64, tmod64, w64 (((n - 1) / 64 : Nat) : Int) (by omega), if_pos (by omega), rowOf_len, if_pos (by omega), if_pos (by omega), rowOf_rd _ _ _ h1,
        show (1 : Int) = ((1 : Nat) : Int) from rfl, shl_bit 1 ((n - 1) % 64) (by decide) (Nat.mod_lt _ (by decide)), Nat.one_mul, bits_or_u64_nat _ _ (dnW_lt g _ h1) (pow_lt64 _ (Nat.mod_lt _ (by decide))), rowOf_set]
      rfl
  | j + 1, k + 1, i, _, rfl, hk, h => by
    have hm := nw_le g.le
    have hw := g.lt i (by omega)
    have e1 : wrap64 ((i : Int) + 1) = ((i + 1 : Nat) : Int) := by rw [w64 _ (by omega)]; omega
    rw [words_Down.l0, if_pos (by omega), if_pos (by omega), rowOf_len, if_pos (by omega), Option.bind_some, rowOf_rd _ _ _ (by omega), e1]
    have e2 : stD (nw n) W i i = W i := if_neg (by omega)
    have e3 : (W i : Int) / 2 = ((W i / 2 : Nat) : Int) := by omega
    rw [e2, e3, rowOf_set]
    by_cases hl : i + 1 < nw n
    · have e4 : IntKind.u64.wrap ((W (i + 1) : Int) * 9223372036854775808) = ((W (i + 1) % 2 * 9223372036854775808 : Nat) : Int) := by
        simp [IntKind.wrap, IntKind.signed, IntKind.bits]
        omega
      rw [if_pos (by omega), if_pos (by omega), rowOf_rd _ _ _ (by omega), if_pos rfl, rowOf_rd _ _ _ (by omega), if_neg (by omega), show stD (nw n) W i (i + 1) = W (i + 1) from if_neg (by omega), e4, bits_or_u64_nat _ _ (by omega) (by omega), rowOf_set]
      have e5 : rowOf (nw n) (fun t => if t = i then W i / 2 ||| W (i + 1) % 2 * 9223372036854775808 else if t = i then W i / 2 else stD (nw n) W i t) = rowOf (nw n) (stD (nw n) W (i + 1)) := by
        refine rowOf_congr (fun t ht => ?_)
        unfold stD
        by_cases e : t = i
        · subst e
          rw [if_pos rfl, if_pos (by omega)]
          unfold dnW
          rw [if_pos hl]
        · rw [if_neg e, if_neg e]
          by_cases e6 : t < i
          · rw [if_pos e6, if_pos (by omega)]
          · rw [if_neg e6, if_neg (by omega)]
      rw [e5]
      exact down_loop g h0 inn out j k (i + 1) _ rfl (by omega) (by omega)
    · rw [if_neg (by omega)]
      have e5 : rowOf (nw n) (fun t => if t = i then W i / 2 else stD (nw n) W i t) = rowOf (nw n) (stD (nw n) W (i + 1)) := by
        refine rowOf_congr (fun t ht => ?_)
        unfold stD
        by_cases e : t = i
        · subst e
          rw [if_pos rfl, if_pos (by omega)]
          unfold dnW
          rw [if_neg hl]
        · rw [if_neg e]
          by_cases e6 : t < i
          · rw [if_pos e6, if_pos (by omega)]
          · rw [if_neg e6, if_neg (by omega)]
      rw [e5]
      exact down_loop g h0 inn out j k (i + 1) _ rfl (by omega) (by omega)
theorem dnW_bit {n : Nat} {W : Nat → Nat} (g : Rowp.Good n W) (i : Nat) (hi : i < 64 * nw n) : bitAt (dnW (nw n) W) i = (decide (i + 1 < 64 * nw n) && bitAt W (i + 1)) := by
  have hb : i % 64 < 64 := Nat.mod_lt _ (by decide)
  have hw := g.lt (i / 64) (by omega)
  have hd : (W (i / 64) / 2).testBit (i % 64) = (W (i / 64)).testBit (i % 64 + 1) := by rw [Nat.testBit_succ]
  have hh : i % 64 = 63 → (W (i / 64)).testBit (i % 64 + 1) = false := fun e => high _ _ hw (by omega)
  unfold bitAt dnW
  split
  · rename_i h
    rw [Nat.testBit_or, hd, show (9223372036854775808 : Nat) = 2 ^ 63 from rfl, Nat.testBit_mul_two_pow, decide_eq_true (show i + 1 < 64 * nw n by omega), Bool.true_and]
    by_cases e : i % 64 = 63
    · rw [hh e, Bool.false_or, decide_eq_true (show i % 64 ≥ 63 by omega), Bool.true_and, show (i + 1) / 64 = i / 64 + 1 by omega, show (i + 1) % 64 = 0 by omega, show i % 64 - 63 = 0 by omega]
      simp [Nat.testBit_zero]
    · rw [decide_eq_false (show ¬ i % 64 ≥ 63 by omega), Bool.false_and, Bool.or_false, show (i + 1) / 64 = i / 64 by omega, show (i + 1) % 64 = i % 64 + 1 by omega]
  · rename_i h
    rw [hd]
    by_cases e : i % 64 = 63
    · rw [hh e, decide_eq_false (by omega), Bool.false_and]
    · rw [decide_eq_true (show i + 1 < 64 * nw n by omega), Bool.true_and, show (i + 1) / 64 = i / 64 by omega, show (i + 1) % 64 = i % 64 + 1 by omega]
theorem dnF_bit {n : Nat} {W : Nat → Nat} (g : Rowp.Good n W) (h0 : 0 < n) (inn : Bool) (i : Nat) (hi : i < 64 * nw n) : bitAt (dnF n W inn) i = if i + 1 = n then inn else (decide (i + 1 < 64 * nw n) && bitAt W (i + 1)) := by
  have hd := dnW_bit g i hi
  have hz : i + 1 = n → (decide (i + 1 < 64 * nw n) && bitAt W (i + 1)) = false := by
    intro e
    by_cases h : i + 1 < 64 * nw n
    · rw [good_high g (i + 1) (by omega) h, Bool.and_false]
    · rw [decide_eq_false h, Bool.false_and]
  unfold dnF
  cases inn
  · rw [if_neg (by decide), hd]
    by_cases e : i + 1 = n
    · rw [if_pos e, hz e]
    · rw [if_neg e]
  · rw [if_pos rfl, bitAt_setBit, hd]
    by_cases e : i + 1 = n
    · rw [if_pos e, hz e, decide_eq_true (by omega)]; rfl
    · rw [if_neg e, decide_eq_false (show ¬ i = n - 1 by omega), Bool.or_false]
theorem dn_good {n : Nat} {W : Nat → Nat} (g : Rowp.Good n W) (h0 : 0 < n) (inn : Bool) : Rowp.Good n (dnF n W inn) := by
  refine good_of_bits g.le ?_ (fun i h1 h2 => ?_)
  · unfold dnF
    split
    · exact setBit_lt (fun t ht => dnW_lt g t ht)
    · exact fun t ht => dnW_lt g t ht
  · rw [dnF_bit g h0 inn i h2, if_neg (by omega)]
    by_cases h : i + 1 < 64 * nw n
    · rw [good_high g (i + 1) (by omega) h, Bool.and_false]
    · rw [decide_eq_false h, Bool.false_and]
def lowB (n : Nat) (W : Nat → Nat) (inn : Bool) : Bool := if n = 0 then inn else bitAt W 0
theorem down_spec {n : Nat} {W : Nat → Nat} (g : Rowp.Good n W) (inn : Bool) (k : Nat) (hk : 1030 < k) :
    ∃ W', Rowp.Good n W' ∧ (∀ i, i < n → bitAt W' i = if i + 1 = n then inn else bitAt W (i + 1)) ∧ words_Down.f k (n : Int) (rowOf (nw n) W) inn = some ((n : Int), rowOf (nw n) W', lowB n W inn, 0) := by
  by_cases h0 : n = 0
  · subst h0
    refine ⟨W, g, fun i hi => by omega, ?_⟩
    unfold words_Down.f
    rw [valid_spec g, Option.bind_some, if_pos rfl, if_pos (show ((0 : Nat) : Int) = 0 from rfl), show words_blank.f 0 = some (((0 : Nat) : Int), List.replicate (nw 0) 0) from blank_spec 0 (by decide), Option.bind_some]
    rfl
  · have hle := g.le
    have hm := nw_le hle
    have hp : 0 < nw n := by unfold nw; omega
    have hst : rowOf (nw n) W = rowOf (nw n) (stD (nw n) W 0) := rowOf_congr (fun t _ => by unfold stD; rw [if_neg (by omega)])
    refine ⟨_, dn_good g (by omega) inn, fun i hi => ?_, ?_⟩
    · have := n_le n
      rw [dnF_bit g (by omega) inn i (by omega)]
      split
      · rfl
      · rw [decide_eq_true (by omega), Bool.true_and]
    · unfold words_Down.f
      have e0 : rd (rowOf (nw n) W) 0 = (W 0 : Int) := rowOf_rd _ _ 0 hp
      have hb := and_bit (W 0) 0 (g.lt 0 hp) (by decide)
      rw [shr_nat _ 0 (by decide), Nat.pow_zero, Nat.div_one] at hb
      rw [valid_spec g, Option.bind_some, if_pos rfl, if_neg (by omega), rowOf_len, if_pos (by omega), clone_spec n hle _ (rowOf_len _ _), Option.bind_some, e0, hb, bit_one]
      show words_Down.l0 k inn _ ((rowOf (nw n) W).length : Int) 0 (n : Int) (rowOf (nw n) W) = _
      rw [rowOf_len, hst, down_loop g (by omega) inn _ (nw n) k 0 0 rfl (by omega) (by omega)]
      unfold lowB
      rw [if_neg h0]
      rfl
end Go.Proofs.YtlghmadoogblcaaDoor.MovePlain
end
section
namespace Go.Proofs.YtlghmadoogblcaaDoor.TurnPlain
open Go Go.RowKit Go.Proofs.YtlghmadoogblcaaDoor.PW Go.Proofs.YtlghmadoogblcaaDoorW.PrintWords Go.Proofs.YtlghmadoogblcaaDoorW.PrintLast Go.Proofs.YtlghmadoogblcaaDoorW.PrintMore Go.Proofs.YtlghmadoogblcaaDoor.Bits Go.Proofs.YtlghmadoogblcaaDoor.Rowp Go.Proofs.YtlghmadoogblcaaDoor.RefPlain Go.Proofs.YtlghmadoogblcaaDoor.Turned Go.Proofs.YtlghmadoogblcaaDoor.Bits1
set_option maxRecDepth 100000
set_option linter.unusedVariables false
theorem mem_plc (Wf : Nat → Nat) (L : Nat) (x : Int) : x ∈ plc Wf L ↔ ∃ q : Nat, x = (q : Int) ∧ q < 64 * L ∧ bitAt Wf q = true := by
  induction L with
  | zero => simp [plc]
  | succ L ih =>
    show x ∈ plc Wf L ++ (OnesPlain.ones (Wf L)).map _ ↔ _
    rw [List.mem_append, ih, List.mem_map]
    constructor
    · rintro (⟨q, h1, h2, h3⟩ | ⟨t, ht, rfl⟩)
      · exact ⟨q, h1, by omega, h3⟩
      · have ht2 : t ∈ (List.range 64).filter fun i => (Wf L).testBit i := ht
        rw [List.mem_filter, List.mem_range] at ht2
        refine ⟨64 * L + t, by omega, by omega, ?_⟩
        unfold bitAt
        rw [show (64 * L + t) / 64 = L by omega, show (64 * L + t) % 64 = t by omega]
        exact ht2.2
    · rintro ⟨q, rfl, h2, h3⟩
      by_cases e : q < 64 * L
      · exact .inl ⟨q, rfl, e, h3⟩
      · refine .inr ⟨q % 64, ?_, by omega⟩
        show q % 64 ∈ (List.range 64).filter fun i => (Wf L).testBit i
        rw [List.mem_filter, List.mem_range]
        refine ⟨Nat.mod_lt _ (by decide), ?_⟩
        unfold bitAt at h3
        rwa [show q / 64 = L by omega] at h3
theorem setb_row (L : Nat) (V : Nat → Nat) (k : Nat) (hk : k < 64 * L) (hV : ∀ t, t < L → V t < 18446744073709551616) : setb (rowOf L V) k = rowOf L (setBit V k) := by
  unfold setb
  have h1 : k / 64 < L := by omega
  have e : (rowOf L V).getD (k / 64) 0 = (V (k / 64) : Int) := by rw [List.getD_eq_getElem?_getD, rowOf_get _ _ _ h1]; rfl
  have e2 : ((2 : Int) ^ (k % 64)) = ((2 ^ (k % 64) : Nat) : Int) := by simp
  have h := rowOf_set L V (k / 64) (V (k / 64) ||| 2 ^ (k % 64))
  rw [Int.toNat_natCast] at h
  rw [e, e2, bits_or_u64_nat _ _ (hV _ h1) (pow_lt64 _ (Nat.mod_lt _ (by decide))), h]
  refine rowOf_congr (fun t ht => ?_)
  unfold setBit
  rfl
theorem turn_all (n L : Nat) (hn : n ≤ 64 * L) : ∀ (pre : List Int) (V : Nat → Nat), (∀ x ∈ pre, 0 ≤ x ∧ x < (n : Int)) → (∀ t, t < L → V t < 18446744073709551616) →
    ∃ V', turnTo (n : Int) (rowOf L V) pre = rowOf L V' ∧ (∀ t, t < L → V' t < 18446744073709551616) ∧ ∀ q, bitAt V' q = (bitAt V q || decide (∃ x ∈ pre, x + (q : Int) + 1 = (n : Int)))
  | [], V, _, h => ⟨V, rfl, h, fun q => by simp⟩
  | x :: pre, V, hx, h => by
    obtain ⟨h0, h1⟩ := hx x (by simp)
    obtain ⟨V', e, h2, h3⟩ := turn_all n L hn pre (setBit V ((n : Int) - 1 - x).toNat) (fun y hy => hx y (by simp [hy])) (setBit_lt h)
    refine ⟨V', ?_, h2, fun q => ?_⟩
    · show turnTo (n : Int) (setb (rowOf L V) ((n : Int) - 1 - x).toNat) pre = _
      rw [setb_row L V _ (by omega) h]
      exact e
    · rw [h3 q, bitAt_setBit]
      by_cases e1 : q = ((n : Int) - 1 - x).toNat
      · rw [decide_eq_true e1, decide_eq_true (show ∃ y ∈ x :: pre, y + (q : Int) + 1 = (n : Int) from ⟨x, by simp, by omega⟩)]
        simp
      · rw [decide_eq_false e1, Bool.or_false]
        congr 1
        refine decide_eq_decide.2 ⟨fun ⟨y, hy, e⟩ => ⟨y, by simp [hy], e⟩, fun ⟨y, hy, e⟩ => ?_⟩
        rcases List.mem_cons.1 hy with rfl | hy
        · omega
        · exact ⟨y, hy, e⟩
theorem wf_row (L : Nat) (W : Nat → Nat) (i : Nat) (hi : i < L) : wf (rowOf L W) i = W i := by
  unfold wf
  rw [List.getD_eq_getElem?_getD, rowOf_get _ _ _ hi]
  simp
theorem plc_congr (A B : Nat → Nat) : ∀ L, (∀ i, i < L → A i = B i) → plc A L = plc B L
  | 0, _ => rfl
  | L + 1, h => by
    show plc A L ++ _ = plc B L ++ _
    rw [plc_congr A B L (fun i hi => h i (by omega)), h L (by omega)]
theorem plc_row (L : Nat) (W : Nat → Nat) : plc (wf (rowOf L W)) (rowOf L W).length = plc W L := by
  rw [rowOf_len]
  exact plc_congr _ _ L (fun i hi => wf_row L W i hi)
theorem plc_range {n : Nat} {W : Nat → Nat} (g : Rowp.Good n W) : ∀ x ∈ plc W (nw n), 0 ≤ x ∧ x < (n : Int) := by
  intro x hx
  obtain ⟨q, rfl, h1, h2⟩ := (mem_plc W (nw n) x).1 hx
  refine ⟨by omega, ?_⟩
  rcases Nat.lt_or_ge q n with h | h
  · omega
  · rw [good_high g q h h1] at h2
    cases h2
theorem turned_spec {n : Nat} {W : Nat → Nat} (g : Rowp.Good n W) : ∃ W', Rowp.Good n W' ∧ (∀ i, i < n → bitAt W' i = bitAt W (n - 1 - i)) ∧
    turnTo (n : Int) (List.replicate (nw n) 0) (plc (wf (rowOf (nw n) W)) (rowOf (nw n) W).length) = rowOf (nw n) W' := by
  rw [plc_row]
  obtain ⟨V, e, h1, h2⟩ := turn_all n (nw n) (n_le n) (plc W (nw n)) (fun _ => 0) (plc_range g) (fun _ _ => by decide)
  rw [rowOf_zero] at e
  have hb : ∀ q, bitAt V q = decide (∃ x ∈ plc W (nw n), x + (q : Int) + 1 = (n : Int)) := fun q => by rw [h2 q]; simp [bitAt]
  refine ⟨V, good_of_bits g.le h1 (fun i hi h3 => ?_), fun i hi => ?_, e⟩
  · rw [hb, decide_eq_false]
    rintro ⟨x, hx, e⟩
    have := plc_range g x hx
    omega
  · rw [hb]
    cases hw : bitAt W (n - 1 - i)
    · refine decide_eq_false ?_
      rintro ⟨x, hx, e⟩
      obtain ⟨q, rfl, h3, h4⟩ := (mem_plc W (nw n) x).1 hx
      rw [show n - 1 - i = q by omega, h4] at hw
      cases hw
    · exact decide_eq_true ⟨((n - 1 - i : Nat) : Int), (mem_plc W (nw n) _).2 ⟨n - 1 - i, rfl, by have := n_le n; omega, hw⟩, by omega⟩
theorem turned_calls {n : Nat} {W : Nat → Nat} (g : Rowp.Good n W) : ∃ W', Rowp.Good n W' ∧ (∀ i, i < n → bitAt W' i = bitAt W (n - 1 - i)) ∧
    TurnSays (n : Int) (rowOf (nw n) W) (rowOf (nw n) W') := by
  obtain ⟨W', g', hb, e⟩ := turned_spec g
  refine ⟨W', g', hb, fun A c w hr hc hT => ?_⟩
  have hle := g.le
  have hm := nw_le hle
  refine (turned_ok (n : Int) A c (rowOf (nw n) W) (List.replicate (nw n) 0) (n : Int) w hr hc (valid_spec g) (clone_spec n hle _ (rowOf_len _ _)) (blank_spec n hle) hT ⟨by omega, by omega⟩ (by rw [rowOf_len]; exact hm) (by simp) (by rw [rowOf_len]; have := n_le n; omega) ?_ ?_).mono ?_
  · intro i hi
    rw [rowOf_len] at hi
    rw [List.getD_eq_getElem?_getD, rowOf_get _ _ _ hi]
    have := g.lt i hi
    show (0 : Int) ≤ ((W i : Nat) : Int) ∧ ((W i : Nat) : Int) < _
    omega
  · rw [plc_row]
    exact plc_range g
  · rintro e1 w' ⟨v, rfl, ho, hB⟩
    refine ⟨v, rfl, ?_, hB⟩
    rw [e] at ho
    rw [rowOf_len] at ho ⊢
    exact ho
end Go.Proofs.YtlghmadoogblcaaDoor.TurnPlain
end
section
namespace Go.Proofs.YtlghmadoogblcaaDoor.PW
open Go.RowKit Go.Proofs.YtlghmadoogblcaaDoorW.PrintWords Go.Proofs.YtlghmadoogblcaaDoorW.PrintLast Go.Proofs.YtlghmadoogblcaaDoorW.PrintMore
attribute [local go_sem] max2_int min2_int max_two min_two max_three min_three max_four min_four   -- for this text's walks alone
set_option linter.unusedVariables false
set_option linter.unusedSimpArgs false
end Go.Proofs.YtlghmadoogblcaaDoor.PW
end
section
namespace Go.Proofs.YtlghmadoogblcaaDoor.PW
open Go.RowKit Go.Proofs.YtlghmadoogblcaaDoorW.PrintWords Go.Proofs.YtlghmadoogblcaaDoorW.PrintLast Go.Proofs.YtlghmadoogblcaaDoorW.PrintMore
attribute [local go_sem] max2_int min2_int max_two min_two max_three min_three max_four min_four   -- for this text's walks alone
set_option linter.unusedVariables false
set_option linter.unusedSimpArgs false
end Go.Proofs.YtlghmadoogblcaaDoor.PW
end
section
namespace Go.Proofs.YtlghmadoogblcaaDoor.Rowp
open Go Go.RowKit Go.Proofs.YtlghmadoogblcaaDoor.PW Go.Proofs.YtlghmadoogblcaaDoorW.PrintWords Go.Proofs.YtlghmadoogblcaaDoorW.PrintLast Go.Proofs.YtlghmadoogblcaaDoorW.PrintMore Go.Proofs.YtlghmadoogblcaaDoor.Bits
set_option maxRecDepth 100000
set_option linter.unusedVariables false
theorem eq_loop {n m : Nat} {W : Nat → Nat} (hle : m ≤ 1025) : ∀ (j k i : Nat) (iI : Int), iI = (i : Int) → j < k → i + j = m → vivariumlaw02_equal.l0 k iI (n : Int) (rowOf m W) (n : Int) (rowOf m W) = some true
  | 0, k + 1, i, _, rfl, _, h => by rw [vivariumlaw02_equal.l0, rowOf_len, if_neg (by omega)]
  | j + 1, k + 1, i, _, rfl, hk, h => by
    rw [vivariumlaw02_equal.l0, rowOf_len, if_pos (by omega), if_pos (by omega), if_pos (by omega), if_pos rfl, w64 ((i : Int) + 1) (by omega), show (i : Int) + 1 = ((i + 1 : Nat) : Int) by omega]
    exact eq_loop hle j k (i + 1) _ rfl (by omega) (by omega)
theorem equal_spec {n : Nat} {W W' : Nat → Nat} (g : Good n W) (hWW : ∀ t, t < nw n → W t = W' t) (k : Nat) (hk : 1026 < k) : vivariumlaw02_equal.f k (n : Int) (rowOf (nw n) W) (n : Int) (rowOf (nw n) W') = some true := by
  have hm : nw n ≤ 1025 := by have := g.le; unfold nw; omega
  rw [← rowOf_congr hWW]
  unfold vivariumlaw02_equal.f
  rw [if_pos rfl, valid_spec g]
  simp only [Option.bind_some, if_true]
  cases k with
  | zero => omega
  | succ k =>
    rw [vivariumlaw02_equal.j0, if_neg (by simp)]
    exact eq_loop hm (nw n) k 0 0 rfl (by omega) (by omega)
end Go.Proofs.YtlghmadoogblcaaDoor.Rowp
end
section
namespace Go.Proofs.YtlghmadoogblcaaDoor.Rowp
open Go Go.RowKit Go.Proofs.YtlghmadoogblcaaDoor.PW Go.Proofs.YtlghmadoogblcaaDoorW.PrintWords Go.Proofs.YtlghmadoogblcaaDoorW.PrintLast Go.Proofs.YtlghmadoogblcaaDoorW.PrintMore Go.Proofs.YtlghmadoogblcaaDoor.Bits
set_option maxRecDepth 100000
set_option linter.unusedVariables false
end Go.Proofs.YtlghmadoogblcaaDoor.Rowp
end
section
namespace Go.Proofs.YtlghmadoogblcaaDoor.Rowp
open Go Go.RowKit Go.Proofs.YtlghmadoogblcaaDoor.PW Go.Proofs.YtlghmadoogblcaaDoorW.PrintWords Go.Proofs.YtlghmadoogblcaaDoorW.PrintLast Go.Proofs.YtlghmadoogblcaaDoorW.PrintMore Go.Proofs.YtlghmadoogblcaaDoor.Bits
set_option maxRecDepth 100000
set_option linter.unusedVariables false
theorem pair_spec (l0 l1 : List Bool) (k : Nat) (hk : 65538 < k) : ∃ (n : Nat) (A B : Nat → Nat), Good n A ∧ Good n B ∧ vivariumlaw02_pair.f k l0 l1 = some ((n : Int), rowOf (nw n) A, (n : Int), rowOf (nw n) B, true) := by
  let n := min (min l0.length l1.length) 65538
  have hn : n = min (min l0.length l1.length) 65538 := rfl
  have e : mn (mn (l0.length : Int) (l1.length : Int)) 65538 = (n : Int) := by unfold mn; split <;> split <;> omega
  have t0 : (l0.take ((n : Int)).toNat).length = n := by rw [Int.toNat_natCast, List.length_take]; omega
  have t1 : (l1.take ((n : Int)).toNat).length = n := by rw [Int.toNat_natCast, List.length_take]; omega
  obtain ⟨A, ga, ha⟩ := of_spec (l := l0.take ((n : Int)).toNat) (by omega) k hk
  obtain ⟨B, gb, hb⟩ := of_spec (l := l1.take ((n : Int)).toNat) (by omega) k hk
  rw [t0] at ga ha
  rw [t1] at gb hb
  refine ⟨n, A, B, ga, gb, ?_⟩
  unfold vivariumlaw02_pair.f
  rw [e, if_pos (by omega), if_pos (by omega), ha, Option.bind_some, if_pos (by omega), hb, Option.bind_some, if_pos rfl, if_pos rfl, if_pos rfl]
  simp
end Go.Proofs.YtlghmadoogblcaaDoor.Rowp
end
section
namespace Go.Proofs.YtlghmadoogblcaaDoor.Alive
open Go.RowKit Go.Proofs.YtlghmadoogblcaaDoor.PW Go.Proofs.YtlghmadoogblcaaDoorW.PrintWords Go.Proofs.YtlghmadoogblcaaDoorW.PrintLast Go.Proofs.YtlghmadoogblcaaDoorW.PrintMore
set_option maxRecDepth 100000
theorem alive_true : vivariumlaw02_alive.f 100 = some true := by decide +kernel
end Go.Proofs.YtlghmadoogblcaaDoor.Alive
end
section
namespace Go.Proofs.YtlghmadoogblcaaDoor.There
open Go Go.RowKit Go.Proofs.YtlghmadoogblcaaDoorW.PrintWords Go.Proofs.YtlghmadoogblcaaDoorW.PrintLast Go.Proofs.YtlghmadoogblcaaDoorW.PrintMore Go.Proofs.YtlghmadoogblcaaDoor.PW Go.Proofs.YtlghmadoogblcaaDoor.Rowp Go.Proofs.YtlghmadoogblcaaDoor.RefPlain Go.Proofs.YtlghmadoogblcaaDoor.MovePlain Go.Proofs.YtlghmadoogblcaaDoor.TurnPlain
set_option linter.unusedVariables false
set_option maxRecDepth 100000
theorem word_eq {n : Nat} {V W : Nat → Nat} (gv : Rowp.Good n V) (gw : Rowp.Good n W) (h : ∀ i, i < n → bitAt V i = bitAt W i) : ∀ t, t < nw n → V t = W t := by
  intro t ht
  have e := congrArg (fun l => l[t]?) (row_eq gv gw h)
  simp only [rowOf_get _ _ _ ht] at e
  have := Option.some.inj e
  omega
theorem alive_at (k : Nat) (hk : 100 ≤ k) : vivariumlaw02_alive.f k = some true := by
  obtain ⟨d, rfl⟩ : ∃ d, k = 100 + d := ⟨k - 100, by omega⟩
  clear hk
  induction d with
  | zero => exact Alive.alive_true
  | succ d ih => exact vivariumlaw02_alive.mono _ _ ih
theorem law (A0 : Option Addr) (c0 : Nat) (l0 : List Bool) (inn : Bool) (w : World) (hr0 : Kd.C Kd.bool w A0 l0.length l0) (hc0 : l0.length ≤ c0) (hT : Tz.Tab w) :
    Calls Tryd.prog 5 #[.slice A0 l0.length c0, .bool inn] w fun e w' => e = .returned (.bool true) ∧ Below w.heap.size w w' := by
  obtain ⟨K, hK⟩ : ∃ K, K = 70000 := ⟨_, rfl⟩
  obtain ⟨n, A, B, ga, gb, hp⟩ := pair_spec l0 l0 K (by omega)
  obtain ⟨U, gu, hu, eu⟩ := up_spec ga inn K (by omega)
  obtain ⟨D, gd, hd, ed⟩ := down_spec gu (topB n A inn) K (by omega)
  obtain ⟨T, gt, ht, et⟩ := turned_calls ga
  obtain ⟨V, gv, hv, ev⟩ := turned_calls gt
  obtain ⟨X, gx, hx, ex⟩ := turned_calls gu
  obtain ⟨Y, gy, hy, ey⟩ := down_spec gt inn K (by omega)
  have q1 : ∀ i, i < n → bitAt D i = bitAt A i := fun i hi => by
    rw [hd i hi]
    by_cases e : i + 1 = n
    · rw [if_pos e]
      unfold topB
      rw [if_neg (by omega), show n - 1 = i by omega]
    · rw [if_neg e, hu (i + 1) (by omega), if_neg (by omega), Nat.add_sub_cancel]
  have q2 : ∀ i, i < n → bitAt V i = bitAt A i := fun i hi => by
    rw [hv i hi, ht (n - 1 - i) (by omega), show n - 1 - (n - 1 - i) = i by omega]
  have q3 : ∀ i, i < n → bitAt X i = bitAt Y i := fun i hi => by
    rw [hx i hi, hy i hi, hu (n - 1 - i) (by omega)]
    by_cases e : i + 1 = n
    · rw [if_pos e, if_pos (by omega)]
    · rw [if_neg e, if_neg (by omega), ht (i + 1) (by omega), show n - 1 - i - 1 = n - 1 - (i + 1) by omega]
  refine walk K A0 c0 l0 inn _ _ _ (n : Int) _ _ _ _ _ _ _ _ w hr0 hc0 (alive_at K (by omega)) hp hT eu ed et ev ex ey (equal_spec gd (word_eq gd ga q1) K (by omega)) (equal_spec gv (word_eq gv ga q2) K (by omega)) (equal_spec gx (word_eq gx gy q3) K (by omega)) ?_ ?_
  · unfold lowB topB
    by_cases h0 : n = 0
    · rw [if_pos h0, if_pos h0]; simp
    · rw [if_neg h0, hu 0 (by omega), if_pos rfl]; simp
  · unfold lowB topB
    by_cases h0 : n = 0
    · rw [if_pos h0, if_pos h0]; simp
    · rw [if_neg h0, if_neg h0, ht 0 (by omega), Nat.sub_zero]; simp
end Go.Proofs.YtlghmadoogblcaaDoor.There
end
section
namespace Go.Proofs.YtlghmadoogblcaaDoor.OpenBool
open Go Go.RowKit Go.Proofs.YtlghmadoogblcaaDoorW.PrintWords Go.Proofs.YtlghmadoogblcaaDoorW.PrintLast Go.Proofs.YtlghmadoogblcaaDoorW.PrintMore
set_option linter.unusedVariables false
theorem open_boolrow {H : Type} {enc : TypeId × Value → H} {P : Program} {w : World} {base : Nat} {held : Bool} {r : Reach} {b0 : Nat} {t e : TypeId} {v : Value} {d : DataW H} {ps : List MemPlace} (ht : P.underlying t = some (.slice e)) (he : P.underlying e = some .bool) (hc : P.cellsOf e = 1)
    (hval : Value.okWide P w r b0 t v) (hd : DataW.Trod enc P w base (fun _ => true) held t v d ps) :
    ∃ (A : Option Addr) (c : Nat) (l : List Bool), v = .slice A l.length c ∧ l.length ≤ c ∧ Kd.C Kd.bool w A l.length l := by
  obtain ⟨a, len, cap, rfl⟩ := Go.WideShapes.okWide_slice ht hval
  obtain ⟨fuel, hf⟩ := hd
  rcases Go.Deep.open_bools ht he hc hf with ⟨h1, _⟩ | ⟨ad, n, c, Bf, h1, _, hl, hm, _, hcell⟩
  · have e1 : Value.slice a len cap = .slice none 0 0 := by simpa [Value.cells] using h1
    injection e1 with e1 e2 e3
    subst e1 e2 e3
    exact ⟨none, 0, [], rfl, Nat.le_refl _, Kd.C_nil _ _⟩
  · have e1 : Value.slice a len cap = .slice (some ad) n c := by simpa [Value.cells] using h1
    injection e1 with e1 e2 e3
    subst e1 e2 e3
    have hlen : ((List.range len).map Bf).length = len := by simp
    refine ⟨some ad, cap, (List.range len).map Bf, by rw [hlen], by rw [hlen]; exact hl, by simp, by rw [hlen]; simp [maxLen] at hm; omega, fun _ => ⟨ad, rfl, fun j p hj => ⟨_, rfl, rfl, fun i u hu => ?_⟩⟩⟩
    have hj' : j < len := by
      have := (List.getElem?_eq_some_iff.1 hj).1
      simpa using this
    have hp : p = Bf j := by
      rw [List.getElem?_map, List.getElem?_range hj'] at hj
      simpa using hj.symm
    match i, hu with
    | 0, hu =>
      obtain rfl : Value.bool p = u := by simpa using hu
      rw [hp]
      simpa [Kd.bool, Kd.scalar] using hcell j (by omega)
    | i + 1, hu => simp at hu
end Go.Proofs.YtlghmadoogblcaaDoor.OpenBool
end
section
namespace Go.Proofs.YtlghmadoogblcaaDoor.wordsThere
open Go.ChangeShapes Go.WideShapes Go.ChangeAt Go.RowKit Go.Joins Go.Deep
open Go.ChangeMaps (open_string shut_string)
set_option linter.unusedVariables false
theorem own : ownKnob Tryd.prog.godebug = none := by kernel_rfl
theorem laidOut : laidOutB Tryd.prog = true := by kernel_rfl
theorem laidPlain {W : World} (h : laidMetH Tryd.prog Rows.wordsThereRow.laid W) : laidMet Tryd.prog Rows.wordsThereRow.laid W := by
  rw [MakeChecks.laidMetH_plain _ _ _ (by kernel_rfl)] at h; exact h
theorem ctz {W : World} (h : laidMetH Tryd.prog Rows.wordsThereRow.laid W) : Lib.TabIs Tryd.prog W "math/bits.deBruijn64tab" .u8 Tz.tab :=
  Lib.tabIs_of_head (g := 0) (t := 74) (e := 5) (n := 64) (by kernel_rfl) (by kernel_rfl) Tryd.underlying74 Tryd.underlying5 (by kernel_rfl) (by kernel_rfl) (laidPlain h)
theorem door_met (os : Os) (args : Array Value) : laidMetH Tryd.prog Rows.wordsThereRow.laid ((World.doorLaid Tryd.prog 24 os).forCall (fun _ _ => 0) ⟨#[], args, []⟩).memory :=
  laidMetH_of_parts3 (fuel := 8) (laidMet_of_run' 8 (by kernel_rfl) (by kernel_rfl)) (by kernel_rfl) (by kernel_rfl)
set_option maxRecDepth 100000 in
theorem lifted (os : Os) (started : os.Started) (H : Type) (enc : TypeId × Value → H) :
    ReturnsInHanded {} Tryd.checked os 5 .any (fun w args => (Rows.wordsThereSpec.pre enc Tryd.prog Tryd.f5 [] false w args ∧ laidMetH Tryd.prog Rows.wordsThereRow.laid w) ∧ sizedMet enc Tryd.prog Tryd.f5 (OpenSpec.ofChange Rows.wordsThereSpec) false w args) (Rows.wordsThereSpec.post enc Tryd.prog Tryd.f5 false true false false) := by
  refine returnsInHanded_of_change_and (C := Tryd.checked) (X := fun w _ => laidMetH Tryd.prog Rows.wordsThereRow.laid w) (fun _ _ _ hh h => h.of_heap hh) own started (by kernel_rfl) Tryd.func5
    (ChangeSpec.witness_shaped (enc := enc) (C := Tryd.checked) (os := os) (X := fun w _ => laidMetH Tryd.prog Rows.wordsThereRow.laid w) false (World.doorLaid Tryd.prog 24 os) #[.slice none 0 0, .bool false] 8 rfl (World.shaped_of_RefB (by kernel_rfl) (by kernel_rfl)) (by kernel_rfl) (by kernel_rfl) (by kernel_rfl) (door_met os _)) ?_
  intro W base args ds gs before hval0 hW _ hsz0 hL _
  have hsz : (DataW.weightsEach Tryd.prog (Tryd.f5.params.toList ++ Rows.wordsThereSpec.plain.varTypes Tryd.prog) (ds ++ gs)).all (· ≤ reachBytes) = true := hsz0
  have hval : ∀ (j : Nat) t v, Tryd.f5.params[j]? = some t → args[j]? = some v → Value.okWide Tryd.prog W .any base t v := hval0
  have hW' := hW
  obtain ⟨p, q, hA0, hV, rfl, hfz, hnd⟩ := hW
  have hA : DataW.TrodAll enc Tryd.prog W 0 (fun _ => true) true Tryd.f5.params.toList args.toList ds p := hA0
  rw [Tryd.params5] at hA hval hsz
  obtain ⟨v0, vs0, d0, ds0, p0, q0, hargs, rfl, rfl, h0, r0⟩ := trodAll_cons hA
  obtain ⟨v1, vs1, d1, ds1, p1, q1, rfl, rfl, rfl, h1, r1⟩ := trodAll_cons r0
  obtain ⟨rfl, rfl, rfl⟩ := trodAll_nil r1
  obtain rfl : args = #[v0, v1] := by cases args; simp_all
  obtain ⟨rfl, rfl⟩ := trodVars_none hV
  have k0 := h0
  have lt0 : ∀ x ∈ p0, x.block < W.heap.size := by obtain ⟨m, hm⟩ := k0; exact DataW.trod_lt m _ _ _ hm
  have k1 := h1
  have lt1 : ∀ x ∈ p1, x.block < W.heap.size := by obtain ⟨m, hm⟩ := k1; exact DataW.trod_lt m _ _ _ hm
  obtain ⟨a1, rfl, rfl, rfl⟩ := open_bool Tryd.underlying4 (hval 1 4 v1 rfl rfl) h1
  clear hA0 hval0 hsz0
  clear hsz
  have done : ∀ W', Below W.heap.size W W' → ∃ r, (Ending.returned (.bool true)) = .returned r ∧ Rows.wordsThereSpec.post enc Tryd.prog Tryd.f5 false true false false W #[v0, .bool a1] r W' := fun W' bel =>
    ⟨_, rfl, _, _, _, [], _, [], hW', trodAll_mk1 (shut_bool Tryd.underlying4 _), (trodAll_cons_mk (Below.trod laidOut (by kernel_rfl) (of_decide_eq_true (by kernel_rfl)) k0 bel lt0) (trodAll_cons_mk (Below.trod laidOut (by kernel_rfl) (of_decide_eq_true (by kernel_rfl)) k1 bel lt1) trodAll_mk0)), rfl, bel.frame _, fun h => by cases h⟩
  obtain ⟨A0, m0, l0, rfl, hc0, hr0⟩ := OpenBool.open_boolrow Tryd.underlying47 Tryd.underlying4 (by kernel_rfl) (hval 0 47 v0 rfl rfl) h0
  refine (There.law A0 m0 l0 a1 W hr0 hc0 (ctz hL)).mono fun e W' ⟨he, bel⟩ => ?_
  subst he
  exact done W' bel
theorem said : Rows.WordsThereSaid :=
  OpenClaim.holds_of_wide 5 Tryd.f5 rfl rfl rfl rfl rfl rfl rfl ⟨rfl, rfl, rfl, rfl, rfl⟩ rfl rfl rfl rfl rfl (by kernel_rfl) Tryd.func5 (by kernel_rfl)
    (of_decide_eq_true (by kernel_rfl)) (by unfold Func.isWrapper; first | (rw [if_pos (by decide +kernel)]; kernel_rfl) | (rw [if_neg (by decide +kernel)]; exact ⟨rfl, rfl⟩))
    (fun os started H enc _ => lifted os started H enc)
theorem plain (f : FuncId) (fn : Func) (hf : Tryd.pinned.checked.prog.funcNamed "vivarium/vivariumlaw02.WordsThere" = some f) (hfn : Tryd.pinned.checked.prog.funcs[f]? = some fn) :
    false = Tryd.pinned.checked.prog.looks [] ∧ ∀ (j : Nat) t, fn.params[j]? = some t → Tryd.pinned.checked.prog.wantsStandIn t = false := by
  obtain rfl : f = 5 := Option.some.inj ((show Tryd.prog.funcNamed "vivarium/vivariumlaw02.WordsThere" = some 5 by kernel_rfl).symm.trans hf) |>.symm
  obtain rfl : fn = Tryd.f5 := (Option.some.inj (Tryd.func5.symm.trans hfn)).symm
  refine ⟨by kernel_rfl, fun j t ht => ?_⟩
  rw [Tryd.params5] at ht
  have hm : t ∈ [47, 4] := by simpa using Array.mem_of_getElem? ht
  have hall : ([47, 4].all fun u => !Tryd.prog.wantsStandIn u) = true := by kernel_rfl
  exact (show Tryd.prog.wantsStandIn t = false by simpa using List.all_eq_true.1 hall t hm)
theorem card : Rows.WordsThereCardSaid :=
  Claim7.holds_tied_plain_at .later [] _ _ _ _ said (fun _ h => by cases h) (by kernel_rfl) (fun _ h => by cases h) wordsThere_row_tie rfl ⟨rfl, rfl⟩ (by kernel_rfl) rfl plain (by kernel_rfl)
end Go.Proofs.YtlghmadoogblcaaDoor.wordsThere
namespace Go.Proofs.YtlghmadoogblcaaDoor
theorem wordsThere_holds : Rows.WordsThereCardSaid := wordsThere.card
#print axioms wordsThere_holds
end Go.Proofs.YtlghmadoogblcaaDoor
end
