-- Printed out of the translation by the kit print (pr.sh). Not trusted: checked by Lean.
import Derived.Test.YtlghmadoogblcaaPWx0
import Derived.Test.YtlghmadoogblcaaPWx1
import Derived.Test.YtlghmadoogblcaaPWxc
import Derived.Test.YtlghmadoogblcaaPWx5
namespace Go.Proofs.Ytlghmadoogblcaa.PW
open Go.RowKit Go.Proofs.YtlghmadoogblcaaW.PrintWords Go.Proofs.YtlghmadoogblcaaW.PrintLast Go.Proofs.YtlghmadoogblcaaW.PrintMore
attribute [local go_sem] max2_int min2_int max_two min_two max_three min_three max_four min_four   -- for this text's walks alone
set_option linter.unusedVariables false
set_option linter.unusedSimpArgs false

local macro "zb" : tactic => `(tactic| (with_reducible repeat (first | refine blk_drewN ?_ _ | refine blk_drew ?_ | refine blk_alloc ?_ _)))
local macro "zr" : tactic => `(tactic| (with_reducible repeat (first | apply Kd.R_alloc | apply Kd.R_drewN | apply Kd.R_drew)))
set_option hygiene false in
local macro "zh" : tactic => `(tactic| (repeat (first | (with_reducible first | exact HB.out | apply below_alloc | apply pw_below_drewN | apply below_drew1 | refine below_set ?_ GE240.out | refine below_set ?_ GE241.out) | exact HB.out)))
local macro "zs" : tactic => `(tactic| first | rfl | (simp; done) | (simp [*]; done) | (simp [wrap64]; done))
set_option hygiene false in
local macro "zR" x:ident : term => `(Aside0.mk (Kd.R_below (by zr; exact ($x).out) hb))
private theorem blk_move {W W1 w1 : World} {g : Nat} {o : Obj} (h : W.heap[g]? = some o) (hW : ∀ {g : Nat} {o : Obj}, W.heap[g]? = some o → W1.heap[g]? = some o) (hb : Below W1.heap.size W1 w1) : w1.heap[g]? = some o := blk_below (hW h) hb
set_option hygiene false in
local macro "zB" x:ident : term => `(Aside0.mk (blk_move ($x).out (by intro g_ o_ h_; zb; exact h_) hb))

/-! ### vivariumlaw02_equal: function 44 -/
mutual
def vivariumlaw02_equal.j0 : Nat → Bool → Int → List Int → Int → List Int → Option (Bool)
  | 0, _, _, _, _, _ => none
  | k + 1, x29, x241000, x241001, x242000, x242001 => if x29 = true then (some false) else (vivariumlaw02_equal.l0 k 0 x241000 x241001 x242000 x242001)
def vivariumlaw02_equal.l0 : Nat → Int → Int → List Int → Int → List Int → Option (Bool)
  | 0, _, _, _, _, _ => none
  | k + 1, x5, x241000, x241001, x242000, x242001 => if x5 < (x241001.length : Int) then (if 0 ≤ x5 then (if x5 < (x242001.length : Int) then (if (rd x241001 x5) = (rd x242001 x5) then (vivariumlaw02_equal.l0 k (wrap64 (x5 + 1)) x241000 x241001 x242000 x242001) else (some false)) else (none)) else (none)) else (some true)
end
def vivariumlaw02_equal.f (k : Nat) (a0_0 : Int) (l0_1 : List Int) (a1_0 : Int) (l1_1 : List Int) : Option (Bool) := if a0_0 = a1_0 then ((words_Valid.f a0_0 l0_1).bind fun t242 => (if t242 = true then ((words_Valid.f a1_0 l1_1).bind fun t243 => (if t243 = true then (vivariumlaw02_equal.j0 k ((l0_1.length : Int) != (l1_1.length : Int)) a0_0 l0_1 a1_0 l1_1) else (vivariumlaw02_equal.j0 k true a0_0 l0_1 a1_0 l1_1))) else (vivariumlaw02_equal.j0 k true a0_0 l0_1 a1_0 l1_1))) else (vivariumlaw02_equal.j0 k true a0_0 l0_1 a1_0 l1_1)
theorem vivariumlaw02_equal.mono_l : ∀ k, (∀ y0 y1 y2 y3 y4, LeO (vivariumlaw02_equal.j0 k y0 y1 y2 y3 y4) (vivariumlaw02_equal.j0 (k + 1) y0 y1 y2 y3 y4)) ∧ (∀ y0 y1 y2 y3 y4, LeO (vivariumlaw02_equal.l0 k y0 y1 y2 y3 y4) (vivariumlaw02_equal.l0 (k + 1) y0 y1 y2 y3 y4))
  | 0 => ⟨fun _ _ _ _ _ r h => by simp [vivariumlaw02_equal.j0] at h, fun _ _ _ _ _ r h => by simp [vivariumlaw02_equal.l0] at h⟩
  | k + 1 => by
    obtain ⟨ih0, ih1⟩ := vivariumlaw02_equal.mono_l k
    refine ⟨?_, ?_⟩
    · intro y0 y1 y2 y3 y4
      unfold vivariumlaw02_equal.j0
      repeat' first
      | (with_reducible exact ih0 _ _ _ _ _)
      | (with_reducible exact ih1 _ _ _ _ _)
      | (with_reducible exact LeO.refl _)
      | (with_reducible exact LeO.none _)
      | (with_reducible refine LeO.ite ?_ ?_)
      | (with_reducible refine LeO.bind ?_ (fun _ => ?_))
      | exact ih0 _ _ _ _ _
      | exact ih1 _ _ _ _ _
      | exact LeO.none _
      | refine LeO.ite ?_ ?_
      | refine LeO.bind ?_ (fun _ => ?_)
    · intro y0 y1 y2 y3 y4
      unfold vivariumlaw02_equal.l0
      repeat' first
      | (with_reducible exact ih0 _ _ _ _ _)
      | (with_reducible exact ih1 _ _ _ _ _)
      | (with_reducible exact LeO.refl _)
      | (with_reducible exact LeO.none _)
      | (with_reducible refine LeO.ite ?_ ?_)
      | (with_reducible refine LeO.bind ?_ (fun _ => ?_))
      | exact ih0 _ _ _ _ _
      | exact ih1 _ _ _ _ _
      | exact LeO.none _
      | refine LeO.ite ?_ ?_
      | refine LeO.bind ?_ (fun _ => ?_)
theorem vivariumlaw02_equal.mono : ∀ a0 a1 a2 a3 k, LeO (vivariumlaw02_equal.f k a0 a1 a2 a3) (vivariumlaw02_equal.f (k + 1) a0 a1 a2 a3) := by
  intro a0 a1 a2 a3 k
  obtain ⟨ih0, ih1⟩ := vivariumlaw02_equal.mono_l k
  unfold vivariumlaw02_equal.f
  repeat' first
      | (with_reducible exact ih0 _ _ _ _ _)
      | (with_reducible exact ih1 _ _ _ _ _)
      | (with_reducible exact LeO.refl _)
      | (with_reducible exact LeO.none _)
      | (with_reducible refine LeO.ite ?_ ?_)
      | (with_reducible refine LeO.bind ?_ (fun _ => ?_))
      | exact ih0 _ _ _ _ _
      | exact ih1 _ _ _ _ _
      | exact LeO.none _
      | refine LeO.ite ?_ ?_
      | refine LeO.bind ?_ (fun _ => ?_)
set_option maxHeartbeats 8000000 in
set_option maxRecDepth 100000 in
theorem vivariumlaw02_equal.calls (k : Nat) (a0_0 : Int) (A0_1 : Option Addr) (c0_1 : Nat) (l0_1 : List Int) (a1_0 : Int) (A1_1 : Option Addr) (c1_1 : Nat) (l1_1 : List Int) (r : Bool) (w : World) (hr0_1 : Kd.C (Kd.int .u64) w A0_1 l0_1.length l0_1) (hc0_1 : l0_1.length ≤ c0_1) (hr1_1 : Kd.C (Kd.int .u64) w A1_1 l1_1.length l1_1) (hc1_1 : l1_1.length ≤ c1_1) (h : vivariumlaw02_equal.f k a0_0 l0_1 a1_0 l1_1 = some r) :
    Calls Try.prog 44 #[.agg #[.int .i64 a0_0, .slice A0_1 l0_1.length c0_1], .agg #[.int .i64 a1_0, .slice A1_1 l1_1.length c1_1]] w fun e w' => e = .returned (.bool r) ∧ Below w.heap.size w w' := by
  have hu31 := Try.underlying31
  have HR0_1 := Aside0.mk hr0_1
  have HC0_1 := Aside0.mk hc0_1
  clear hr0_1 hc0_1
  have HR1_1 := Aside0.mk hr1_1
  have HC1_1 := Aside0.mk hc1_1
  clear hr1_1 hc1_1
  have HB := Aside0.mk (Below.refl w.heap.size w)
  have H : (if a0_0 = a1_0 then ((words_Valid.f a0_0 l0_1).bind fun t242 => (if t242 = true then ((words_Valid.f a1_0 l1_1).bind fun t243 => (if t243 = true then (vivariumlaw02_equal.j0 k ((l0_1.length : Int) != (l1_1.length : Int)) a0_0 l0_1 a1_0 l1_1) else (vivariumlaw02_equal.j0 k true a0_0 l0_1 a1_0 l1_1))) else (vivariumlaw02_equal.j0 k true a0_0 l0_1 a1_0 l1_1))) else (vivariumlaw02_equal.j0 k true a0_0 l0_1 a1_0 l1_1)) = some r := h
  clear h
  have HC3 := Aside0.mk H
  clear H
  go_enter Try.func44, Try.ntmps44
  go_upto_region 1 with (first | ((with_reducible refine gate_dst (N := 2) rfl ?_); (try (refine gate_guard (by rfl) ?_; dsimp only)); refine box_event ?hg (N := 2) ?hd (cs := #[.int .i64 a0_0, .slice A0_1 l0_1.length c0_1]) (t := 31) ?hr ?_; (case hd => rfl); (case hg => rfl); (case hr => first | (go_simp; done) | (go_simp; rfl)); intro gb240 hg w4 hbox hb; have n0_ := Aside0.mk (below_step (by zh) hb); have n1_ := Aside0.mk (hbox); have n2_ := Aside0.mk ((by rw [hg]; exact (below_size (by zh)) : w.heap.size ≤ gb240)); have n3_ := Aside0.mk ((by rw [hg]; exact (below_size (by zh)) : w.heap.size ≤ gb240)); clear HB; have HB := n0_; have BK240 := n1_; have GW240 := n2_; have GE240 := n3_; clear n0_ n1_ n2_ n3_; clear hb hbox hg) | ((with_reducible refine gate_dst (N := 3) rfl ?_); (try (refine gate_guard (by rfl) ?_; dsimp only)); refine box_event ?hg (N := 3) ?hd (cs := #[.int .i64 a1_0, .slice A1_1 l1_1.length c1_1]) (t := 31) ?hr ?_; (case hd => rfl); (case hg => rfl); (case hr => first | (go_simp; done) | (go_simp; rfl)); intro gb241 hg w5 hbox hb; have n0_ := zB BK240; have n1_ := Aside0.mk (below_step (by zh) hb); have n2_ := Aside0.mk (hbox); have n3_ := Aside0.mk ((by rw [hg]; exact (below_size (by zh)) : w.heap.size ≤ gb241)); have n4_ := Aside0.mk ((by rw [hg]; exact (below_size (by zh)) : w.heap.size ≤ gb241)); have n5_ := Aside0.mk ((by rw [hg]; exact Nat.ne_of_lt (blk_lt (g := gb240) (o := .cells #[.int .i64 a0_0, .slice A0_1 l0_1.length c0_1] 31 (0, 0)) (by zb; exact BK240.out)) : gb240 ≠ gb241)); have n6_ := Aside0.mk ((by rw [hg]; exact Nat.ne_of_gt (blk_lt (g := gb240) (o := .cells #[.int .i64 a0_0, .slice A0_1 l0_1.length c0_1] 31 (0, 0)) (by zb; exact BK240.out)) : gb241 ≠ gb240)); clear BK240; clear HB; have BK240 := n0_; have HB := n1_; have BK241 := n2_; have GW241 := n3_; have GE241 := n4_; have NB240_241 := n5_; have NB241_240 := n6_; clear n0_ n1_ n2_ n3_ n4_ n5_ n6_; clear hb hbox hg))
  repeat (go_quiet (first | ((with_reducible refine gate_dst (N := 2) rfl ?_); (try (refine gate_guard (by rfl) ?_; dsimp only)); refine box_event ?hg (N := 2) ?hd (cs := #[.int .i64 a0_0, .slice A0_1 l0_1.length c0_1]) (t := 31) ?hr ?_; (case hd => rfl); (case hg => rfl); (case hr => first | (go_simp; done) | (go_simp; rfl)); intro gb240 hg w4 hbox hb; have n0_ := Aside0.mk (below_step (by zh) hb); have n1_ := Aside0.mk (hbox); have n2_ := Aside0.mk ((by rw [hg]; exact (below_size (by zh)) : w.heap.size ≤ gb240)); have n3_ := Aside0.mk ((by rw [hg]; exact (below_size (by zh)) : w.heap.size ≤ gb240)); clear HB; have HB := n0_; have BK240 := n1_; have GW240 := n2_; have GE240 := n3_; clear n0_ n1_ n2_ n3_; clear hb hbox hg) | ((with_reducible refine gate_dst (N := 3) rfl ?_); (try (refine gate_guard (by rfl) ?_; dsimp only)); refine box_event ?hg (N := 3) ?hd (cs := #[.int .i64 a1_0, .slice A1_1 l1_1.length c1_1]) (t := 31) ?hr ?_; (case hd => rfl); (case hg => rfl); (case hr => first | (go_simp; done) | (go_simp; rfl)); intro gb241 hg w5 hbox hb; have n0_ := zB BK240; have n1_ := Aside0.mk (below_step (by zh) hb); have n2_ := Aside0.mk (hbox); have n3_ := Aside0.mk ((by rw [hg]; exact (below_size (by zh)) : w.heap.size ≤ gb241)); have n4_ := Aside0.mk ((by rw [hg]; exact (below_size (by zh)) : w.heap.size ≤ gb241)); have n5_ := Aside0.mk ((by rw [hg]; exact Nat.ne_of_lt (blk_lt (g := gb240) (o := .cells #[.int .i64 a0_0, .slice A0_1 l0_1.length c0_1] 31 (0, 0)) (by zb; exact BK240.out)) : gb240 ≠ gb241)); have n6_ := Aside0.mk ((by rw [hg]; exact Nat.ne_of_gt (blk_lt (g := gb240) (o := .cells #[.int .i64 a0_0, .slice A0_1 l0_1.length c0_1] 31 (0, 0)) (by zb; exact BK240.out)) : gb241 ≠ gb240)); clear BK240; clear HB; have BK240 := n0_; have HB := n1_; have BK241 := n2_; have GW241 := n3_; have GE241 := n4_; have NB240_241 := n5_; have NB241_240 := n6_; clear n0_ n1_ n2_ n3_ n4_ n5_ n6_; clear hb hbox hg)); go_upto_region 1 with (first | ((with_reducible refine gate_dst (N := 2) rfl ?_); (try (refine gate_guard (by rfl) ?_; dsimp only)); refine box_event ?hg (N := 2) ?hd (cs := #[.int .i64 a0_0, .slice A0_1 l0_1.length c0_1]) (t := 31) ?hr ?_; (case hd => rfl); (case hg => rfl); (case hr => first | (go_simp; done) | (go_simp; rfl)); intro gb240 hg w4 hbox hb; have n0_ := Aside0.mk (below_step (by zh) hb); have n1_ := Aside0.mk (hbox); have n2_ := Aside0.mk ((by rw [hg]; exact (below_size (by zh)) : w.heap.size ≤ gb240)); have n3_ := Aside0.mk ((by rw [hg]; exact (below_size (by zh)) : w.heap.size ≤ gb240)); clear HB; have HB := n0_; have BK240 := n1_; have GW240 := n2_; have GE240 := n3_; clear n0_ n1_ n2_ n3_; clear hb hbox hg) | ((with_reducible refine gate_dst (N := 3) rfl ?_); (try (refine gate_guard (by rfl) ?_; dsimp only)); refine box_event ?hg (N := 3) ?hd (cs := #[.int .i64 a1_0, .slice A1_1 l1_1.length c1_1]) (t := 31) ?hr ?_; (case hd => rfl); (case hg => rfl); (case hr => first | (go_simp; done) | (go_simp; rfl)); intro gb241 hg w5 hbox hb; have n0_ := zB BK240; have n1_ := Aside0.mk (below_step (by zh) hb); have n2_ := Aside0.mk (hbox); have n3_ := Aside0.mk ((by rw [hg]; exact (below_size (by zh)) : w.heap.size ≤ gb241)); have n4_ := Aside0.mk ((by rw [hg]; exact (below_size (by zh)) : w.heap.size ≤ gb241)); have n5_ := Aside0.mk ((by rw [hg]; exact Nat.ne_of_lt (blk_lt (g := gb240) (o := .cells #[.int .i64 a0_0, .slice A0_1 l0_1.length c0_1] 31 (0, 0)) (by zb; exact BK240.out)) : gb240 ≠ gb241)); have n6_ := Aside0.mk ((by rw [hg]; exact Nat.ne_of_gt (blk_lt (g := gb240) (o := .cells #[.int .i64 a0_0, .slice A0_1 l0_1.length c0_1] 31 (0, 0)) (by zb; exact BK240.out)) : gb241 ≠ gb240)); clear BK240; clear HB; have BK240 := n0_; have HB := n1_; have BK241 := n2_; have GW241 := n3_; have GE241 := n4_; have NB240_241 := n5_; have NB241_240 := n6_; clear n0_ n1_ n2_ n3_ n4_ n5_ n6_; clear hb hbox hg)))
  (try simp only [Act.put, List.setIfInBounds_toArray, List.set_cons_zero, List.set_cons_succ])
  go_cut [29] (fun v29 wc => ∃ (kq : Nat) (x29_2 : Bool), v29 = .bool x29_2 ∧ Aside0 (vivariumlaw02_equal.j0 kq x29_2 a0_0 l0_1 a1_0 l1_1 = some r) ∧ Aside0 (kq ≤ k) ∧ Aside0 (wc.heap[gb240]? = some (.cells #[.int .i64 a0_0, (.slice A0_1 l0_1.length c0_1)] 31 (0, 0))) ∧ Aside0 (wc.heap[gb241]? = some (.cells #[.int .i64 a1_0, (.slice A1_1 l1_1.length c1_1)] 31 (0, 0))) ∧ Aside0 (Below w.heap.size w wc))
  case first =>
    have H := HC3.out
    clear HC3
    by_cases c6 : a0_0 = a1_0
    · rw [if_pos c6] at H
      have c6b0 : (a0_0 == a1_0) = true := beq_iff_eq.mpr c6
      have c6b1 : (a0_0 != a1_0) = false := bne_eq_false_iff_eq.mpr c6
      clear c6
      (first | rw [c6b0] | (simp only [i64_w, i32_w]; rw [c6b0]) | skip)
      replace H := Option.bind_eq_some_iff.mp H
      obtain ⟨t242, A70, H⟩ := H
      replace H : (if t242 = true then ((words_Valid.f a1_0 l1_1).bind fun t243 => (if t243 = true then (vivariumlaw02_equal.j0 k ((l0_1.length : Int) != (l1_1.length : Int)) a0_0 l0_1 a1_0 l1_1) else (vivariumlaw02_equal.j0 k true a0_0 l0_1 a1_0 l1_1))) else (vivariumlaw02_equal.j0 k true a0_0 l0_1 a1_0 l1_1)) = some r := H
      have A7 := Aside0.mk A70
      clear A70
      by_cases c8 : t242 = true
      · subst c8
        have H1 : ((words_Valid.f a1_0 l1_1).bind fun t243 => (if t243 = true then (vivariumlaw02_equal.j0 k ((l0_1.length : Int) != (l1_1.length : Int)) a0_0 l0_1 a1_0 l1_1) else (vivariumlaw02_equal.j0 k true a0_0 l0_1 a1_0 l1_1))) = some r := by rw [if_pos rfl] at H; exact H
        clear H
        have H := H1
        clear H1
        replace H := Option.bind_eq_some_iff.mp H
        obtain ⟨t243, A90, H⟩ := H
        replace H : (if t243 = true then (vivariumlaw02_equal.j0 k ((l0_1.length : Int) != (l1_1.length : Int)) a0_0 l0_1 a1_0 l1_1) else (vivariumlaw02_equal.j0 k true a0_0 l0_1 a1_0 l1_1)) = some r := H
        have A9 := Aside0.mk A90
        clear A90
        by_cases c10 : t243 = true
        · subst c10
          have H1 : (vivariumlaw02_equal.j0 k ((l0_1.length : Int) != (l1_1.length : Int)) a0_0 l0_1 a1_0 l1_1) = some r := by rw [if_pos rfl] at H; exact H
          clear H
          have H := H1
          clear H1
          have H' := Aside0.mk H
          clear H
          have hnb11 := NB240_241.out
          have hnc11 := NB241_240.out
          have hcz12_0 : w5.cell? ⟨gb240, 0, none⟩ = some (.int .i64 a0_0) := (blk_cell BK240.out 0).trans rfl
          have hcz12_1 : w5.cell? ⟨gb240, 1, none⟩ = some (.slice A0_1 l0_1.length c0_1) := (blk_cell BK240.out 1).trans rfl
          have hfz12_0 := blk_frozen BK240.out 0
          have hfz12_1 := blk_frozen BK240.out 1
          have hcz13_0 : w5.cell? ⟨gb241, 0, none⟩ = some (.int .i64 a1_0) := (blk_cell BK241.out 0).trans rfl
          have hcz13_1 : w5.cell? ⟨gb241, 1, none⟩ = some (.slice A1_1 l1_1.length c1_1) := (blk_cell BK241.out 1).trans rfl
          have hfz13_0 := blk_frozen BK241.out 0
          have hfz13_1 := blk_frozen BK241.out 1
          go_wp2_with (first | (go_at_call 22; (with_reducible refine (words_Valid.calls a0_0 _ _ l0_1 true _ ?side1 ?side2 A7.out).mono ?_); (case side1 => repeat (first | exact (Kd.C_below HR0_1.out HB.out) | (with_reducible refine Kd.C_alloc ?_ _) | (with_reducible refine Kd.C_drewN ?_ _) | (with_reducible refine Kd.C_drew ?_))); (case side2 => exact HC0_1.out); rintro e w14 ⟨rfl, hb⟩; have n0_ := zB BK240; have n1_ := zB BK241; have n2_ := Aside0.mk (below_step (by zh) hb); clear BK240; clear BK241; clear HB; have BK240 := n0_; have BK241 := n1_; have HB := n2_; clear n0_ n1_ n2_; (try clear hb); (try clear hb2); (try clear hk); (try clear hi); have hcz15_0 : w14.cell? ⟨gb241, 0, none⟩ = some (.int .i64 a1_0) := (blk_cell BK241.out 0).trans rfl; have hcz15_1 : w14.cell? ⟨gb241, 1, none⟩ = some (.slice A1_1 l1_1.length c1_1) := (blk_cell BK241.out 1).trans rfl; have hfz15_0 := blk_frozen BK241.out 0; have hfz15_1 := blk_frozen BK241.out 1) | (go_at_call 22; (with_reducible refine (words_Valid.calls a1_0 _ _ l1_1 true _ ?side1 ?side2 A9.out).mono ?_); (case side1 => repeat (first | exact (Kd.C_below HR1_1.out HB.out) | (with_reducible refine Kd.C_alloc ?_ _) | (with_reducible refine Kd.C_drewN ?_ _) | (with_reducible refine Kd.C_drew ?_))); (case side2 => exact HC1_1.out); rintro e w16 ⟨rfl, hb⟩; have n0_ := zB BK240; have n1_ := zB BK241; have n2_ := Aside0.mk (below_step (by zh) hb); clear BK240; clear BK241; clear HB; have BK240 := n0_; have BK241 := n1_; have HB := n2_; clear n0_ n1_ n2_; (try clear hb); (try clear hb2); (try clear hk); (try clear hi); have hcz17_0 : w16.cell? ⟨gb240, 0, none⟩ = some (.int .i64 a0_0) := (blk_cell BK240.out 0).trans rfl; have hcz17_1 : w16.cell? ⟨gb240, 1, none⟩ = some (.slice A0_1 l0_1.length c0_1) := (blk_cell BK240.out 1).trans rfl; have hfz17_0 := blk_frozen BK240.out 0; have hfz17_1 := blk_frozen BK240.out 1; have hcz18_0 : w16.cell? ⟨gb241, 0, none⟩ = some (.int .i64 a1_0) := (blk_cell BK241.out 0).trans rfl; have hcz18_1 : w16.cell? ⟨gb241, 1, none⟩ = some (.slice A1_1 l1_1.length c1_1) := (blk_cell BK241.out 1).trans rfl; have hfz18_0 := blk_frozen BK241.out 0; have hfz18_1 := blk_frozen BK241.out 1))
          repeat (go_quiet (first | (go_at_call 22; (with_reducible refine (words_Valid.calls a0_0 _ _ l0_1 true _ ?side1 ?side2 A7.out).mono ?_); (case side1 => repeat (first | exact (Kd.C_below HR0_1.out HB.out) | (with_reducible refine Kd.C_alloc ?_ _) | (with_reducible refine Kd.C_drewN ?_ _) | (with_reducible refine Kd.C_drew ?_))); (case side2 => exact HC0_1.out); rintro e w14 ⟨rfl, hb⟩; have n0_ := zB BK240; have n1_ := zB BK241; have n2_ := Aside0.mk (below_step (by zh) hb); clear BK240; clear BK241; clear HB; have BK240 := n0_; have BK241 := n1_; have HB := n2_; clear n0_ n1_ n2_; (try clear hb); (try clear hb2); (try clear hk); (try clear hi); have hcz15_0 : w14.cell? ⟨gb241, 0, none⟩ = some (.int .i64 a1_0) := (blk_cell BK241.out 0).trans rfl; have hcz15_1 : w14.cell? ⟨gb241, 1, none⟩ = some (.slice A1_1 l1_1.length c1_1) := (blk_cell BK241.out 1).trans rfl; have hfz15_0 := blk_frozen BK241.out 0; have hfz15_1 := blk_frozen BK241.out 1) | (go_at_call 22; (with_reducible refine (words_Valid.calls a1_0 _ _ l1_1 true _ ?side1 ?side2 A9.out).mono ?_); (case side1 => repeat (first | exact (Kd.C_below HR1_1.out HB.out) | (with_reducible refine Kd.C_alloc ?_ _) | (with_reducible refine Kd.C_drewN ?_ _) | (with_reducible refine Kd.C_drew ?_))); (case side2 => exact HC1_1.out); rintro e w16 ⟨rfl, hb⟩; have n0_ := zB BK240; have n1_ := zB BK241; have n2_ := Aside0.mk (below_step (by zh) hb); clear BK240; clear BK241; clear HB; have BK240 := n0_; have BK241 := n1_; have HB := n2_; clear n0_ n1_ n2_; (try clear hb); (try clear hb2); (try clear hk); (try clear hi); have hcz17_0 : w16.cell? ⟨gb240, 0, none⟩ = some (.int .i64 a0_0) := (blk_cell BK240.out 0).trans rfl; have hcz17_1 : w16.cell? ⟨gb240, 1, none⟩ = some (.slice A0_1 l0_1.length c0_1) := (blk_cell BK240.out 1).trans rfl; have hfz17_0 := blk_frozen BK240.out 0; have hfz17_1 := blk_frozen BK240.out 1; have hcz18_0 : w16.cell? ⟨gb241, 0, none⟩ = some (.int .i64 a1_0) := (blk_cell BK241.out 0).trans rfl; have hcz18_1 : w16.cell? ⟨gb241, 1, none⟩ = some (.slice A1_1 l1_1.length c1_1) := (blk_cell BK241.out 1).trans rfl; have hfz18_0 := blk_frozen BK241.out 0; have hfz18_1 := blk_frozen BK241.out 1)); try go_wp2_with (first | (go_at_call 22; (with_reducible refine (words_Valid.calls a0_0 _ _ l0_1 true _ ?side1 ?side2 A7.out).mono ?_); (case side1 => repeat (first | exact (Kd.C_below HR0_1.out HB.out) | (with_reducible refine Kd.C_alloc ?_ _) | (with_reducible refine Kd.C_drewN ?_ _) | (with_reducible refine Kd.C_drew ?_))); (case side2 => exact HC0_1.out); rintro e w14 ⟨rfl, hb⟩; have n0_ := zB BK240; have n1_ := zB BK241; have n2_ := Aside0.mk (below_step (by zh) hb); clear BK240; clear BK241; clear HB; have BK240 := n0_; have BK241 := n1_; have HB := n2_; clear n0_ n1_ n2_; (try clear hb); (try clear hb2); (try clear hk); (try clear hi); have hcz15_0 : w14.cell? ⟨gb241, 0, none⟩ = some (.int .i64 a1_0) := (blk_cell BK241.out 0).trans rfl; have hcz15_1 : w14.cell? ⟨gb241, 1, none⟩ = some (.slice A1_1 l1_1.length c1_1) := (blk_cell BK241.out 1).trans rfl; have hfz15_0 := blk_frozen BK241.out 0; have hfz15_1 := blk_frozen BK241.out 1) | (go_at_call 22; (with_reducible refine (words_Valid.calls a1_0 _ _ l1_1 true _ ?side1 ?side2 A9.out).mono ?_); (case side1 => repeat (first | exact (Kd.C_below HR1_1.out HB.out) | (with_reducible refine Kd.C_alloc ?_ _) | (with_reducible refine Kd.C_drewN ?_ _) | (with_reducible refine Kd.C_drew ?_))); (case side2 => exact HC1_1.out); rintro e w16 ⟨rfl, hb⟩; have n0_ := zB BK240; have n1_ := zB BK241; have n2_ := Aside0.mk (below_step (by zh) hb); clear BK240; clear BK241; clear HB; have BK240 := n0_; have BK241 := n1_; have HB := n2_; clear n0_ n1_ n2_; (try clear hb); (try clear hb2); (try clear hk); (try clear hi); have hcz17_0 : w16.cell? ⟨gb240, 0, none⟩ = some (.int .i64 a0_0) := (blk_cell BK240.out 0).trans rfl; have hcz17_1 : w16.cell? ⟨gb240, 1, none⟩ = some (.slice A0_1 l0_1.length c0_1) := (blk_cell BK240.out 1).trans rfl; have hfz17_0 := blk_frozen BK240.out 0; have hfz17_1 := blk_frozen BK240.out 1; have hcz18_0 : w16.cell? ⟨gb241, 0, none⟩ = some (.int .i64 a1_0) := (blk_cell BK241.out 0).trans rfl; have hcz18_1 : w16.cell? ⟨gb241, 1, none⟩ = some (.slice A1_1 l1_1.length c1_1) := (blk_cell BK241.out 1).trans rfl; have hfz18_0 := blk_frozen BK241.out 0; have hfz18_1 := blk_frozen BK241.out 1)))
          go_meet
          case rel => exact ⟨_, (((l0_1.length : Int) != (l1_1.length : Int))), (by zs), H', ⟨by first | omega | exact Nat.le_refl _⟩, ⟨by zb; exact BK240.out⟩, ⟨by zb; exact BK241.out⟩, ⟨by zh⟩⟩
        · replace c10 := Bool.eq_false_iff.mpr c10
          subst c10
          have H1 : (vivariumlaw02_equal.j0 k true a0_0 l0_1 a1_0 l1_1) = some r := by rw [if_neg (show ¬ (false = true) by decide)] at H; exact H
          clear H
          have H := H1
          clear H1
          have H' := Aside0.mk H
          clear H
          have hnb19 := NB240_241.out
          have hnc19 := NB241_240.out
          have hcz20_0 : w5.cell? ⟨gb240, 0, none⟩ = some (.int .i64 a0_0) := (blk_cell BK240.out 0).trans rfl
          have hcz20_1 : w5.cell? ⟨gb240, 1, none⟩ = some (.slice A0_1 l0_1.length c0_1) := (blk_cell BK240.out 1).trans rfl
          have hfz20_0 := blk_frozen BK240.out 0
          have hfz20_1 := blk_frozen BK240.out 1
          have hcz21_0 : w5.cell? ⟨gb241, 0, none⟩ = some (.int .i64 a1_0) := (blk_cell BK241.out 0).trans rfl
          have hcz21_1 : w5.cell? ⟨gb241, 1, none⟩ = some (.slice A1_1 l1_1.length c1_1) := (blk_cell BK241.out 1).trans rfl
          have hfz21_0 := blk_frozen BK241.out 0
          have hfz21_1 := blk_frozen BK241.out 1
          go_wp2_with (first | (go_at_call 22; (with_reducible refine (words_Valid.calls a0_0 _ _ l0_1 true _ ?side1 ?side2 A7.out).mono ?_); (case side1 => repeat (first | exact (Kd.C_below HR0_1.out HB.out) | (with_reducible refine Kd.C_alloc ?_ _) | (with_reducible refine Kd.C_drewN ?_ _) | (with_reducible refine Kd.C_drew ?_))); (case side2 => exact HC0_1.out); rintro e w22 ⟨rfl, hb⟩; have n0_ := zB BK240; have n1_ := zB BK241; have n2_ := Aside0.mk (below_step (by zh) hb); clear BK240; clear BK241; clear HB; have BK240 := n0_; have BK241 := n1_; have HB := n2_; clear n0_ n1_ n2_; (try clear hb); (try clear hb2); (try clear hk); (try clear hi); have hcz23_0 : w22.cell? ⟨gb241, 0, none⟩ = some (.int .i64 a1_0) := (blk_cell BK241.out 0).trans rfl; have hcz23_1 : w22.cell? ⟨gb241, 1, none⟩ = some (.slice A1_1 l1_1.length c1_1) := (blk_cell BK241.out 1).trans rfl; have hfz23_0 := blk_frozen BK241.out 0; have hfz23_1 := blk_frozen BK241.out 1) | (go_at_call 22; (with_reducible refine (words_Valid.calls a1_0 _ _ l1_1 false _ ?side1 ?side2 A9.out).mono ?_); (case side1 => repeat (first | exact (Kd.C_below HR1_1.out HB.out) | (with_reducible refine Kd.C_alloc ?_ _) | (with_reducible refine Kd.C_drewN ?_ _) | (with_reducible refine Kd.C_drew ?_))); (case side2 => exact HC1_1.out); rintro e w24 ⟨rfl, hb⟩; have n0_ := zB BK240; have n1_ := zB BK241; have n2_ := Aside0.mk (below_step (by zh) hb); clear BK240; clear BK241; clear HB; have BK240 := n0_; have BK241 := n1_; have HB := n2_; clear n0_ n1_ n2_; (try clear hb); (try clear hb2); (try clear hk); (try clear hi)))
          repeat (go_quiet (first | (go_at_call 22; (with_reducible refine (words_Valid.calls a0_0 _ _ l0_1 true _ ?side1 ?side2 A7.out).mono ?_); (case side1 => repeat (first | exact (Kd.C_below HR0_1.out HB.out) | (with_reducible refine Kd.C_alloc ?_ _) | (with_reducible refine Kd.C_drewN ?_ _) | (with_reducible refine Kd.C_drew ?_))); (case side2 => exact HC0_1.out); rintro e w22 ⟨rfl, hb⟩; have n0_ := zB BK240; have n1_ := zB BK241; have n2_ := Aside0.mk (below_step (by zh) hb); clear BK240; clear BK241; clear HB; have BK240 := n0_; have BK241 := n1_; have HB := n2_; clear n0_ n1_ n2_; (try clear hb); (try clear hb2); (try clear hk); (try clear hi); have hcz23_0 : w22.cell? ⟨gb241, 0, none⟩ = some (.int .i64 a1_0) := (blk_cell BK241.out 0).trans rfl; have hcz23_1 : w22.cell? ⟨gb241, 1, none⟩ = some (.slice A1_1 l1_1.length c1_1) := (blk_cell BK241.out 1).trans rfl; have hfz23_0 := blk_frozen BK241.out 0; have hfz23_1 := blk_frozen BK241.out 1) | (go_at_call 22; (with_reducible refine (words_Valid.calls a1_0 _ _ l1_1 false _ ?side1 ?side2 A9.out).mono ?_); (case side1 => repeat (first | exact (Kd.C_below HR1_1.out HB.out) | (with_reducible refine Kd.C_alloc ?_ _) | (with_reducible refine Kd.C_drewN ?_ _) | (with_reducible refine Kd.C_drew ?_))); (case side2 => exact HC1_1.out); rintro e w24 ⟨rfl, hb⟩; have n0_ := zB BK240; have n1_ := zB BK241; have n2_ := Aside0.mk (below_step (by zh) hb); clear BK240; clear BK241; clear HB; have BK240 := n0_; have BK241 := n1_; have HB := n2_; clear n0_ n1_ n2_; (try clear hb); (try clear hb2); (try clear hk); (try clear hi))); try go_wp2_with (first | (go_at_call 22; (with_reducible refine (words_Valid.calls a0_0 _ _ l0_1 true _ ?side1 ?side2 A7.out).mono ?_); (case side1 => repeat (first | exact (Kd.C_below HR0_1.out HB.out) | (with_reducible refine Kd.C_alloc ?_ _) | (with_reducible refine Kd.C_drewN ?_ _) | (with_reducible refine Kd.C_drew ?_))); (case side2 => exact HC0_1.out); rintro e w22 ⟨rfl, hb⟩; have n0_ := zB BK240; have n1_ := zB BK241; have n2_ := Aside0.mk (below_step (by zh) hb); clear BK240; clear BK241; clear HB; have BK240 := n0_; have BK241 := n1_; have HB := n2_; clear n0_ n1_ n2_; (try clear hb); (try clear hb2); (try clear hk); (try clear hi); have hcz23_0 : w22.cell? ⟨gb241, 0, none⟩ = some (.int .i64 a1_0) := (blk_cell BK241.out 0).trans rfl; have hcz23_1 : w22.cell? ⟨gb241, 1, none⟩ = some (.slice A1_1 l1_1.length c1_1) := (blk_cell BK241.out 1).trans rfl; have hfz23_0 := blk_frozen BK241.out 0; have hfz23_1 := blk_frozen BK241.out 1) | (go_at_call 22; (with_reducible refine (words_Valid.calls a1_0 _ _ l1_1 false _ ?side1 ?side2 A9.out).mono ?_); (case side1 => repeat (first | exact (Kd.C_below HR1_1.out HB.out) | (with_reducible refine Kd.C_alloc ?_ _) | (with_reducible refine Kd.C_drewN ?_ _) | (with_reducible refine Kd.C_drew ?_))); (case side2 => exact HC1_1.out); rintro e w24 ⟨rfl, hb⟩; have n0_ := zB BK240; have n1_ := zB BK241; have n2_ := Aside0.mk (below_step (by zh) hb); clear BK240; clear BK241; clear HB; have BK240 := n0_; have BK241 := n1_; have HB := n2_; clear n0_ n1_ n2_; (try clear hb); (try clear hb2); (try clear hk); (try clear hi))))
          go_meet
          case rel => exact ⟨_, (true), (by zs), H', ⟨by first | omega | exact Nat.le_refl _⟩, ⟨by zb; exact BK240.out⟩, ⟨by zb; exact BK241.out⟩, ⟨by zh⟩⟩
      · replace c8 := Bool.eq_false_iff.mpr c8
        subst c8
        have H1 : (vivariumlaw02_equal.j0 k true a0_0 l0_1 a1_0 l1_1) = some r := by rw [if_neg (show ¬ (false = true) by decide)] at H; exact H
        clear H
        have H := H1
        clear H1
        have H' := Aside0.mk H
        clear H
        have hnb25 := NB240_241.out
        have hnc25 := NB241_240.out
        have hcz26_0 : w5.cell? ⟨gb240, 0, none⟩ = some (.int .i64 a0_0) := (blk_cell BK240.out 0).trans rfl
        have hcz26_1 : w5.cell? ⟨gb240, 1, none⟩ = some (.slice A0_1 l0_1.length c0_1) := (blk_cell BK240.out 1).trans rfl
        have hfz26_0 := blk_frozen BK240.out 0
        have hfz26_1 := blk_frozen BK240.out 1
        have hcz27_0 : w5.cell? ⟨gb241, 0, none⟩ = some (.int .i64 a1_0) := (blk_cell BK241.out 0).trans rfl
        have hcz27_1 : w5.cell? ⟨gb241, 1, none⟩ = some (.slice A1_1 l1_1.length c1_1) := (blk_cell BK241.out 1).trans rfl
        have hfz27_0 := blk_frozen BK241.out 0
        have hfz27_1 := blk_frozen BK241.out 1
        go_wp2_with (first | (go_at_call 22; (with_reducible refine (words_Valid.calls a0_0 _ _ l0_1 false _ ?side1 ?side2 A7.out).mono ?_); (case side1 => repeat (first | exact (Kd.C_below HR0_1.out HB.out) | (with_reducible refine Kd.C_alloc ?_ _) | (with_reducible refine Kd.C_drewN ?_ _) | (with_reducible refine Kd.C_drew ?_))); (case side2 => exact HC0_1.out); rintro e w28 ⟨rfl, hb⟩; have n0_ := zB BK240; have n1_ := zB BK241; have n2_ := Aside0.mk (below_step (by zh) hb); clear BK240; clear BK241; clear HB; have BK240 := n0_; have BK241 := n1_; have HB := n2_; clear n0_ n1_ n2_; (try clear hb); (try clear hb2); (try clear hk); (try clear hi)))
        repeat (go_quiet (first | (go_at_call 22; (with_reducible refine (words_Valid.calls a0_0 _ _ l0_1 false _ ?side1 ?side2 A7.out).mono ?_); (case side1 => repeat (first | exact (Kd.C_below HR0_1.out HB.out) | (with_reducible refine Kd.C_alloc ?_ _) | (with_reducible refine Kd.C_drewN ?_ _) | (with_reducible refine Kd.C_drew ?_))); (case side2 => exact HC0_1.out); rintro e w28 ⟨rfl, hb⟩; have n0_ := zB BK240; have n1_ := zB BK241; have n2_ := Aside0.mk (below_step (by zh) hb); clear BK240; clear BK241; clear HB; have BK240 := n0_; have BK241 := n1_; have HB := n2_; clear n0_ n1_ n2_; (try clear hb); (try clear hb2); (try clear hk); (try clear hi))); try go_wp2_with (first | (go_at_call 22; (with_reducible refine (words_Valid.calls a0_0 _ _ l0_1 false _ ?side1 ?side2 A7.out).mono ?_); (case side1 => repeat (first | exact (Kd.C_below HR0_1.out HB.out) | (with_reducible refine Kd.C_alloc ?_ _) | (with_reducible refine Kd.C_drewN ?_ _) | (with_reducible refine Kd.C_drew ?_))); (case side2 => exact HC0_1.out); rintro e w28 ⟨rfl, hb⟩; have n0_ := zB BK240; have n1_ := zB BK241; have n2_ := Aside0.mk (below_step (by zh) hb); clear BK240; clear BK241; clear HB; have BK240 := n0_; have BK241 := n1_; have HB := n2_; clear n0_ n1_ n2_; (try clear hb); (try clear hb2); (try clear hk); (try clear hi))))
        go_meet
        case rel => exact ⟨_, (true), (by zs), H', ⟨by first | omega | exact Nat.le_refl _⟩, ⟨by zb; exact BK240.out⟩, ⟨by zb; exact BK241.out⟩, ⟨by zh⟩⟩
    · rw [if_neg c6] at H
      have c6b0 : (a0_0 == a1_0) = false := beq_eq_false_iff_ne.mpr c6
      have c6b1 : (a0_0 != a1_0) = true := bne_iff_ne.mpr c6
      (first | rw [c6b0] | (simp only [i64_w, i32_w]; rw [c6b0]) | skip)
      have H' := Aside0.mk H
      clear H
      have hnb29 := NB240_241.out
      have hnc29 := NB241_240.out
      have hcz30_0 : w5.cell? ⟨gb240, 0, none⟩ = some (.int .i64 a0_0) := (blk_cell BK240.out 0).trans rfl
      have hcz30_1 : w5.cell? ⟨gb240, 1, none⟩ = some (.slice A0_1 l0_1.length c0_1) := (blk_cell BK240.out 1).trans rfl
      have hfz30_0 := blk_frozen BK240.out 0
      have hfz30_1 := blk_frozen BK240.out 1
      have hcz31_0 : w5.cell? ⟨gb241, 0, none⟩ = some (.int .i64 a1_0) := (blk_cell BK241.out 0).trans rfl
      have hcz31_1 : w5.cell? ⟨gb241, 1, none⟩ = some (.slice A1_1 l1_1.length c1_1) := (blk_cell BK241.out 1).trans rfl
      have hfz31_0 := blk_frozen BK241.out 0
      have hfz31_1 := blk_frozen BK241.out 1
      go_wp2
      repeat (go_quiet (fail); try go_wp2)
      go_meet
      case rel => exact ⟨_, (true), (by zs), H', ⟨by first | omega | exact Nat.le_refl _⟩, ⟨by zb; exact BK240.out⟩, ⟨by zb; exact BK241.out⟩, ⟨by zh⟩⟩
  case rest =>
    clear HC3
    try clear c1
    try clear c2
    try clear p2
    try clear c4
    try clear c6
    try clear c6b0
    try clear c6b1
    try clear c8
    try clear c10
    try clear c11
    try clear c19
    try clear c25
    try clear c29
    try clear hcz12_0
    try clear hcz12_1
    try clear hcz13_0
    try clear hcz13_1
    try clear hcz15_0
    try clear hcz15_1
    try clear hcz17_0
    try clear hcz17_1
    try clear hcz18_0
    try clear hcz18_1
    try clear hcz20_0
    try clear hcz20_1
    try clear hcz21_0
    try clear hcz21_1
    try clear hcz23_0
    try clear hcz23_1
    try clear hcz26_0
    try clear hcz26_1
    try clear hcz27_0
    try clear hcz27_1
    try clear hcz30_0
    try clear hcz30_1
    try clear hcz31_0
    try clear hcz31_1
    try clear hfz12_0
    try clear hfz12_1
    try clear hfz13_0
    try clear hfz13_1
    try clear hfz15_0
    try clear hfz15_1
    try clear hfz17_0
    try clear hfz17_1
    try clear hfz18_0
    try clear hfz18_1
    try clear hfz20_0
    try clear hfz20_1
    try clear hfz21_0
    try clear hfz21_1
    try clear hfz23_0
    try clear hfz23_1
    try clear hfz26_0
    try clear hfz26_1
    try clear hfz27_0
    try clear hfz27_1
    try clear hfz30_0
    try clear hfz30_1
    try clear hfz31_0
    try clear hfz31_1
    obtain ⟨kq, x29_2, rfl, HA, HJ2, BK240, BK241, HB⟩ := hcut
    cases kq with
    | zero => exact absurd HA.out (by simp [vivariumlaw02_equal.j0])
    | succ kj2 =>
      have H := HA.out
      clear HA
      simp only [vivariumlaw02_equal.j0] at H
      by_cases c32 : x29_2 = true
      · subst c32
        have H1 : (some false) = some r := by rw [if_pos rfl] at H; exact H
        clear H
        have H := H1
        clear H1
        obtain rfl := Option.some.inj H
        go_wp2
        repeat (go_quiet (fail); try go_wp2)
        go_ret
        exact ⟨by first | rfl | (simp [errW_none, errW_some] <;> rfl) | (simp [*, errW_none, errW_some] <;> rfl), by zh⟩
      · replace c32 := Bool.eq_false_iff.mpr c32
        subst c32
        have H1 : (vivariumlaw02_equal.l0 kj2 0 a0_0 l0_1 a1_0 l1_1) = some r := by rw [if_neg (show ¬ (false = true) by decide)] at H; exact H
        clear H
        have H := H1
        clear H1
        have H' := Aside0.mk H
        clear H
        go_wp2
        repeat (go_quiet (fail); try go_wp2)
        go_loopg [5] kj2 (fun kq v5 w' => ∃ (x5_2 : Int), v5 = .int .i64 x5_2 ∧ Aside0 (vivariumlaw02_equal.l0 kq x5_2 a0_0 l0_1 a1_0 l1_1 = some r) ∧ Aside0 (kq ≤ kj2) ∧ Aside0 (w'.heap[gb240]? = some (.cells #[.int .i64 a0_0, (.slice A0_1 l0_1.length c0_1)] 31 (0, 0))) ∧ Aside0 (w'.heap[gb241]? = some (.cells #[.int .i64 a1_0, (.slice A1_1 l1_1.length c1_1)] 31 (0, 0))) ∧ Aside0 (Below w.heap.size w w'))
        case atStart => exact ⟨(0), (by zs), H', ⟨Nat.le_refl _⟩, ⟨by zb; exact BK240.out⟩, ⟨by zb; exact BK241.out⟩, ⟨by zh⟩⟩
        case round =>
          clear H'
          try clear c1
          try clear c2
          try clear p2
          try clear c3
          try clear c4
          try clear c6
          try clear c6b0
          try clear c6b1
          try clear c8
          try clear c10
          try clear c11
          try clear c19
          try clear c25
          try clear c29
          try clear c32
          try clear hcz12_0
          try clear hcz12_1
          try clear hcz13_0
          try clear hcz13_1
          try clear hcz15_0
          try clear hcz15_1
          try clear hcz17_0
          try clear hcz17_1
          try clear hcz18_0
          try clear hcz18_1
          try clear hcz20_0
          try clear hcz20_1
          try clear hcz21_0
          try clear hcz21_1
          try clear hcz23_0
          try clear hcz23_1
          try clear hcz26_0
          try clear hcz26_1
          try clear hcz27_0
          try clear hcz27_1
          try clear hcz30_0
          try clear hcz30_1
          try clear hcz31_0
          try clear hcz31_1
          try clear hfz12_0
          try clear hfz12_1
          try clear hfz13_0
          try clear hfz13_1
          try clear hfz15_0
          try clear hfz15_1
          try clear hfz17_0
          try clear hfz17_1
          try clear hfz18_0
          try clear hfz18_1
          try clear hfz20_0
          try clear hfz20_1
          try clear hfz21_0
          try clear hfz21_1
          try clear hfz23_0
          try clear hfz23_1
          try clear hfz26_0
          try clear hfz26_1
          try clear hfz27_0
          try clear hfz27_1
          try clear hfz30_0
          try clear hfz30_1
          try clear hfz31_0
          try clear hfz31_1
          try clear p2
          obtain ⟨x5_2, rfl, HA, HK2, BK240, BK241, HB⟩ := hrel
          cases gk with
          | zero => exact absurd HA.out (by simp [vivariumlaw02_equal.l0])
          | succ k2 =>
            have H := HA.out
            clear HA
            simp only [vivariumlaw02_equal.l0] at H
            by_cases c33 : x5_2 < (l0_1.length : Int)
            · rw [if_pos c33] at H
              have c33b0 : decide (x5_2 < (l0_1.length : Int)) = true := decide_eq_true c33
              clear c33
              by_cases c34 : 0 ≤ x5_2
              · rw [if_pos c34] at H
                have c34b0 : decide (0 ≤ x5_2) = true := decide_eq_true c34
                clear c34
                by_cases c35 : x5_2 < (l1_1.length : Int)
                · rw [if_pos c35] at H
                  have c35b0 : decide (x5_2 < (l1_1.length : Int)) = true := decide_eq_true c35
                  clear c35
                  by_cases c36 : (rd l0_1 x5_2) = (rd l1_1 x5_2)
                  · rw [if_pos c36] at H
                    have c36b0 : ((rd l0_1 x5_2) == (rd l1_1 x5_2)) = true := beq_iff_eq.mpr c36
                    have c36b1 : ((rd l0_1 x5_2) != (rd l1_1 x5_2)) = false := bne_eq_false_iff_eq.mpr c36
                    clear c36
                    have H' := Aside0.mk H
                    clear H
                    have hnb37 := NB240_241.out
                    have hnc37 := NB241_240.out
                    have hcz38_0 : wr.cell? ⟨gb240, 0, none⟩ = some (.int .i64 a0_0) := (blk_cell BK240.out 0).trans rfl
                    have hcz38_1 : wr.cell? ⟨gb240, 1, none⟩ = some (.slice A0_1 l0_1.length c0_1) := (blk_cell BK240.out 1).trans rfl
                    have hfz38_0 := blk_frozen BK240.out 0
                    have hfz38_1 := blk_frozen BK240.out 1
                    have p244 : 0 ≤ (x5_2 : Int) := of_decide_eq_true (by first | (with_reducible assumption) | assumption)
                    have q244 : x5_2 < (l0_1.length : Int) := of_decide_eq_true (by first | (with_reducible assumption) | assumption)
                    obtain ⟨ad244, e244, hx244_0⟩ := Kd.at_int HR0_1.out x5_2 p244 q244
                    cases e244
                    replace hx244_0 := (HB.out.cell (World.block_lt_of_cell? w _ hx244_0)).trans hx244_0
                    replace p244 := eq_true p244
                    replace q244 := eq_true q244
                    have hcz39_0 : wr.cell? ⟨gb241, 0, none⟩ = some (.int .i64 a1_0) := (blk_cell BK241.out 0).trans rfl
                    have hcz39_1 : wr.cell? ⟨gb241, 1, none⟩ = some (.slice A1_1 l1_1.length c1_1) := (blk_cell BK241.out 1).trans rfl
                    have hfz39_0 := blk_frozen BK241.out 0
                    have hfz39_1 := blk_frozen BK241.out 1
                    have p245 : 0 ≤ (x5_2 : Int) := of_decide_eq_true (by first | (with_reducible assumption) | assumption)
                    have q245 : x5_2 < (l1_1.length : Int) := of_decide_eq_true (by first | (with_reducible assumption) | assumption)
                    obtain ⟨ad245, e245, hx245_0⟩ := Kd.at_int HR1_1.out x5_2 p245 q245
                    cases e245
                    replace hx245_0 := (HB.out.cell (World.block_lt_of_cell? w _ hx245_0)).trans hx245_0
                    replace p245 := eq_true p245
                    replace q245 := eq_true q245
                    go_wp2
                    repeat (go_quiet (fail); try go_wp2)
                    go_roundg k2
                    case measure => have := HJ2.out; have := HK2.out; omega
                    case rel => exact ⟨(wrap64 (x5_2 + 1)), (by zs), H', ⟨by have := HJ2.out; have := HK2.out; omega⟩, ⟨by zb; exact BK240.out⟩, ⟨by zb; exact BK241.out⟩, ⟨by zh⟩⟩
                  · rw [if_neg c36] at H
                    have c36b0 : ((rd l0_1 x5_2) == (rd l1_1 x5_2)) = false := beq_eq_false_iff_ne.mpr c36
                    have c36b1 : ((rd l0_1 x5_2) != (rd l1_1 x5_2)) = true := bne_iff_ne.mpr c36
                    obtain rfl := Option.some.inj H
                    have hnb40 := NB240_241.out
                    have hnc40 := NB241_240.out
                    have hcz41_0 : wr.cell? ⟨gb240, 0, none⟩ = some (.int .i64 a0_0) := (blk_cell BK240.out 0).trans rfl
                    have hcz41_1 : wr.cell? ⟨gb240, 1, none⟩ = some (.slice A0_1 l0_1.length c0_1) := (blk_cell BK240.out 1).trans rfl
                    have hfz41_0 := blk_frozen BK240.out 0
                    have hfz41_1 := blk_frozen BK240.out 1
                    have p244 : 0 ≤ (x5_2 : Int) := of_decide_eq_true (by first | (with_reducible assumption) | assumption)
                    have q244 : x5_2 < (l0_1.length : Int) := of_decide_eq_true (by first | (with_reducible assumption) | assumption)
                    obtain ⟨ad244, e244, hx244_0⟩ := Kd.at_int HR0_1.out x5_2 p244 q244
                    cases e244
                    replace hx244_0 := (HB.out.cell (World.block_lt_of_cell? w _ hx244_0)).trans hx244_0
                    replace p244 := eq_true p244
                    replace q244 := eq_true q244
                    have hcz42_0 : wr.cell? ⟨gb241, 0, none⟩ = some (.int .i64 a1_0) := (blk_cell BK241.out 0).trans rfl
                    have hcz42_1 : wr.cell? ⟨gb241, 1, none⟩ = some (.slice A1_1 l1_1.length c1_1) := (blk_cell BK241.out 1).trans rfl
                    have hfz42_0 := blk_frozen BK241.out 0
                    have hfz42_1 := blk_frozen BK241.out 1
                    have p245 : 0 ≤ (x5_2 : Int) := of_decide_eq_true (by first | (with_reducible assumption) | assumption)
                    have q245 : x5_2 < (l1_1.length : Int) := of_decide_eq_true (by first | (with_reducible assumption) | assumption)
                    obtain ⟨ad245, e245, hx245_0⟩ := Kd.at_int HR1_1.out x5_2 p245 q245
                    cases e245
                    replace hx245_0 := (HB.out.cell (World.block_lt_of_cell? w _ hx245_0)).trans hx245_0
                    replace p245 := eq_true p245
                    replace q245 := eq_true q245
                    go_wp2
                    repeat (go_quiet (fail); try go_wp2)
                    go_ret
                    exact ⟨by first | rfl | (simp [errW_none, errW_some] <;> rfl) | (simp [*, errW_none, errW_some] <;> rfl), by zh⟩
                · rw [if_neg c35] at H
                  exact absurd H (by simp)
              · rw [if_neg c34] at H
                exact absurd H (by simp)
            · rw [if_neg c33] at H
              have c33b0 : decide (x5_2 < (l0_1.length : Int)) = false := decide_eq_false c33
              clear c33
              obtain rfl := Option.some.inj H
              have hnb43 := NB240_241.out
              have hnc43 := NB241_240.out
              have hcz44_0 : wr.cell? ⟨gb240, 0, none⟩ = some (.int .i64 a0_0) := (blk_cell BK240.out 0).trans rfl
              have hcz44_1 : wr.cell? ⟨gb240, 1, none⟩ = some (.slice A0_1 l0_1.length c0_1) := (blk_cell BK240.out 1).trans rfl
              have hfz44_0 := blk_frozen BK240.out 0
              have hfz44_1 := blk_frozen BK240.out 1
              go_wp2
              repeat (go_quiet (fail); try go_wp2)
              go_ret
              exact ⟨by first | rfl | (simp [errW_none, errW_some] <;> rfl) | (simp [*, errW_none, errW_some] <;> rfl), by zh⟩

/-! ### vivariumref02_Sums: function 15 -/
def vivariumref02_Sums.l0 : Nat → Int → Int → Int → Int → Int → Int → Option (Int × Int)
  | 0, _, _, _, _, _, _ => none
  | k + 1, x0, x1, x2, x8, x9, x10 => if x10 < 64 then (if 0 ≤ (IntKind.u64.wrap (x10)) then (vivariumref02_Sums.l0 k x0 x1 x2 (IntKind.u64.wrap (x8 + (shl .u64 (Int.tmod (IntKind.u64.wrap ((IntKind.u64.wrap ((Int.tmod (shr .u64 x0 (IntKind.u64.wrap (x10))) 2) + (Int.tmod (shr .u64 x1 (IntKind.u64.wrap (x10))) 2))) + (Int.tmod (shr .u64 x2 (IntKind.u64.wrap (x10))) 2))) 2) (IntKind.u64.wrap (x10))))) (IntKind.u64.wrap (x9 + (shl .u64 (IntKind.u64.wrap (Int.tdiv (IntKind.u64.wrap ((IntKind.u64.wrap ((Int.tmod (shr .u64 x0 (IntKind.u64.wrap (x10))) 2) + (Int.tmod (shr .u64 x1 (IntKind.u64.wrap (x10))) 2))) + (Int.tmod (shr .u64 x2 (IntKind.u64.wrap (x10))) 2))) 2)) (IntKind.u64.wrap (x10))))) (wrap64 (x10 + 1))) else (none)) else (some (x8, x9))
def vivariumref02_Sums.f (k : Nat) (a0 : Int) (a1 : Int) (a2 : Int) : Option (Int × Int) := vivariumref02_Sums.l0 k a0 a1 a2 0 0 0
theorem vivariumref02_Sums.mono_l : ∀ k, (∀ y0 y1 y2 y3 y4 y5, LeO (vivariumref02_Sums.l0 k y0 y1 y2 y3 y4 y5) (vivariumref02_Sums.l0 (k + 1) y0 y1 y2 y3 y4 y5))
  | 0 => fun _ _ _ _ _ _ r h => by simp [vivariumref02_Sums.l0] at h
  | k + 1 => by
    have ih0 := vivariumref02_Sums.mono_l k
    · intro y0 y1 y2 y3 y4 y5
      unfold vivariumref02_Sums.l0
      repeat' first
      | (with_reducible exact ih0 _ _ _ _ _ _)
      | (with_reducible exact LeO.refl _)
      | (with_reducible exact LeO.none _)
      | (with_reducible refine LeO.ite ?_ ?_)
      | (with_reducible refine LeO.bind ?_ (fun _ => ?_))
      | exact ih0 _ _ _ _ _ _
      | exact LeO.none _
      | refine LeO.ite ?_ ?_
      | refine LeO.bind ?_ (fun _ => ?_)
theorem vivariumref02_Sums.mono : ∀ a0 a1 a2 k, LeO (vivariumref02_Sums.f k a0 a1 a2) (vivariumref02_Sums.f (k + 1) a0 a1 a2) := by
  intro a0 a1 a2 k
  have ih0 := vivariumref02_Sums.mono_l k
  unfold vivariumref02_Sums.f
  repeat' first
      | (with_reducible exact ih0 _ _ _ _ _ _)
      | (with_reducible exact LeO.refl _)
      | (with_reducible exact LeO.none _)
      | (with_reducible refine LeO.ite ?_ ?_)
      | (with_reducible refine LeO.bind ?_ (fun _ => ?_))
      | exact ih0 _ _ _ _ _ _
      | exact LeO.none _
      | refine LeO.ite ?_ ?_
      | refine LeO.bind ?_ (fun _ => ?_)
set_option maxHeartbeats 8000000 in
set_option maxRecDepth 100000 in
theorem vivariumref02_Sums.calls (k : Nat) (a0 : Int) (a1 : Int) (a2 : Int) (r1 : Int) (r2 : Int) (w : World) (h : vivariumref02_Sums.f k a0 a1 a2 = some (r1, r2)) :
    Calls Try.prog 15 #[.int .u64 a0, .int .u64 a1, .int .u64 a2] w fun e w' => e = .returned (.tuple #[.int .u64 r1, .int .u64 r2]) ∧ Drawn0 w w' := by
  have H : (vivariumref02_Sums.l0 k a0 a1 a2 0 0 0) = some (r1, r2) := h
  clear h
  have H' := Aside0.mk H
  clear H
  go_enter Try.func15, Try.ntmps15
  go_wp2
  go_loopg [8, 9, 10] k (fun kq v8 v9 v10 w' => ∃ (x8_1 : Int) (x9_1 : Int) (x10_1 : Int), v8 = .int .u64 x8_1 ∧ v9 = .int .u64 x9_1 ∧ v10 = .int .i64 x10_1 ∧ Aside0 (vivariumref02_Sums.l0 kq a0 a1 a2 x8_1 x9_1 x10_1 = some (r1, r2)) ∧ Aside0 (kq ≤ k) ∧ Drawn0 w w')
  case atStart => exact ⟨(0), (0), (0), (by zs), (by zs), (by zs), H', ⟨Nat.le_refl _⟩, by repeat (first | exact Drawn0.refl _ | apply Drawn0.step)⟩
  case round =>
    clear H'
    try clear c1
    try clear p2
    obtain ⟨x8_1, x9_1, x10_1, rfl, rfl, rfl, HA, HK1, ⟨m1, rfl⟩⟩ := hrel
    cases gk with
    | zero => exact absurd HA.out (by simp [vivariumref02_Sums.l0])
    | succ k1 =>
      have H := HA.out
      clear HA
      simp only [vivariumref02_Sums.l0] at H
      by_cases c4 : x10_1 < 64
      · rw [if_pos c4] at H
        have c4b0 : decide (x10_1 < 64) = true := decide_eq_true c4
        clear c4
        obtain ⟨ji5, hji5⟩ : ∃ j_ : Int, (IntKind.u64.wrap (x10_1)) = j_ := ⟨_, rfl⟩
        replace H : (if 0 ≤ (ji5) then (vivariumref02_Sums.l0 k1 a0 a1 a2 (IntKind.u64.wrap (x8_1 + (shl .u64 (Int.tmod (IntKind.u64.wrap ((IntKind.u64.wrap ((Int.tmod (shr .u64 a0 (ji5)) 2) + (Int.tmod (shr .u64 a1 (ji5)) 2))) + (Int.tmod (shr .u64 a2 (ji5)) 2))) 2) (ji5)))) (IntKind.u64.wrap (x9_1 + (shl .u64 (IntKind.u64.wrap (Int.tdiv (IntKind.u64.wrap ((IntKind.u64.wrap ((Int.tmod (shr .u64 a0 (ji5)) 2) + (Int.tmod (shr .u64 a1 (ji5)) 2))) + (Int.tmod (shr .u64 a2 (ji5)) 2))) 2)) (ji5)))) (wrap64 (x10_1 + 1))) else (none)) = some (r1, r2) := by first | (rw [hji5] at H; exact H) | (simp only [hji5] at H ⊢; exact H)
        by_cases c6 : 0 ≤ (ji5)
        · rw [if_pos c6] at H
          have c6b0 := eq_true c6
          have c6b1 : decide (0 ≤ (ji5)) = true := decide_eq_true c6
          clear c6
          obtain ⟨ji7, hji7⟩ : ∃ j_ : Int, (shr .u64 a0 (ji5)) = j_ := ⟨_, rfl⟩
          replace H : (vivariumref02_Sums.l0 k1 a0 a1 a2 (IntKind.u64.wrap (x8_1 + (shl .u64 (Int.tmod (IntKind.u64.wrap ((IntKind.u64.wrap ((Int.tmod (ji7) 2) + (Int.tmod (shr .u64 a1 (ji5)) 2))) + (Int.tmod (shr .u64 a2 (ji5)) 2))) 2) (ji5)))) (IntKind.u64.wrap (x9_1 + (shl .u64 (IntKind.u64.wrap (Int.tdiv (IntKind.u64.wrap ((IntKind.u64.wrap ((Int.tmod (ji7) 2) + (Int.tmod (shr .u64 a1 (ji5)) 2))) + (Int.tmod (shr .u64 a2 (ji5)) 2))) 2)) (ji5)))) (wrap64 (x10_1 + 1))) = some (r1, r2) := by first | (rw [hji7] at H; exact H) | (simp only [hji7] at H ⊢; exact H)
          have hji7_ : (a0 / 2 ^ min (ji5).toNat 64) = ji7 := hji7
          have hji7z : (ji5) ≤ 64 → (a0 / 2 ^ (ji5).toNat) = ji7 := shr_small hji7
          have c8b0 := eq_true (of_decide_eq_true (by first | (with_reducible assumption) | assumption) : 0 ≤ (ji5))
          obtain ⟨ji9, hji9⟩ : ∃ j_ : Int, (shr .u64 a1 (ji5)) = j_ := ⟨_, rfl⟩
          replace H : (vivariumref02_Sums.l0 k1 a0 a1 a2 (IntKind.u64.wrap (x8_1 + (shl .u64 (Int.tmod (IntKind.u64.wrap ((IntKind.u64.wrap ((Int.tmod (ji7) 2) + (Int.tmod (ji9) 2))) + (Int.tmod (shr .u64 a2 (ji5)) 2))) 2) (ji5)))) (IntKind.u64.wrap (x9_1 + (shl .u64 (IntKind.u64.wrap (Int.tdiv (IntKind.u64.wrap ((IntKind.u64.wrap ((Int.tmod (ji7) 2) + (Int.tmod (ji9) 2))) + (Int.tmod (shr .u64 a2 (ji5)) 2))) 2)) (ji5)))) (wrap64 (x10_1 + 1))) = some (r1, r2) := by first | (rw [hji9] at H; exact H) | (simp only [hji9] at H ⊢; exact H)
          have hji9_ : (a1 / 2 ^ min (ji5).toNat 64) = ji9 := hji9
          have hji9z : (ji5) ≤ 64 → (a1 / 2 ^ (ji5).toNat) = ji9 := shr_small hji9
          have c10b0 := eq_true (of_decide_eq_true (by first | (with_reducible assumption) | assumption) : 0 ≤ (ji5))
          obtain ⟨ji11, hji11⟩ : ∃ j_ : Int, (shr .u64 a2 (ji5)) = j_ := ⟨_, rfl⟩
          replace H : (vivariumref02_Sums.l0 k1 a0 a1 a2 (IntKind.u64.wrap (x8_1 + (shl .u64 (Int.tmod (IntKind.u64.wrap ((IntKind.u64.wrap ((Int.tmod (ji7) 2) + (Int.tmod (ji9) 2))) + (Int.tmod (ji11) 2))) 2) (ji5)))) (IntKind.u64.wrap (x9_1 + (shl .u64 (IntKind.u64.wrap (Int.tdiv (IntKind.u64.wrap ((IntKind.u64.wrap ((Int.tmod (ji7) 2) + (Int.tmod (ji9) 2))) + (Int.tmod (ji11) 2))) 2)) (ji5)))) (wrap64 (x10_1 + 1))) = some (r1, r2) := by first | (rw [hji11] at H; exact H) | (simp only [hji11] at H ⊢; exact H)
          have hji11_ : (a2 / 2 ^ min (ji5).toNat 64) = ji11 := hji11
          have hji11z : (ji5) ≤ 64 → (a2 / 2 ^ (ji5).toNat) = ji11 := shr_small hji11
          have c12b0 := eq_true (of_decide_eq_true (by first | (with_reducible assumption) | assumption) : 0 ≤ (ji5))
          obtain ⟨ji13, hji13⟩ : ∃ j_ : Int, (shl .u64 (Int.tmod (IntKind.u64.wrap ((IntKind.u64.wrap ((Int.tmod (ji7) 2) + (Int.tmod (ji9) 2))) + (Int.tmod (ji11) 2))) 2) (ji5)) = j_ := ⟨_, rfl⟩
          replace H : (vivariumref02_Sums.l0 k1 a0 a1 a2 (IntKind.u64.wrap (x8_1 + (ji13))) (IntKind.u64.wrap (x9_1 + (shl .u64 (IntKind.u64.wrap (Int.tdiv (IntKind.u64.wrap ((IntKind.u64.wrap ((Int.tmod (ji7) 2) + (Int.tmod (ji9) 2))) + (Int.tmod (ji11) 2))) 2)) (ji5)))) (wrap64 (x10_1 + 1))) = some (r1, r2) := by first | (rw [hji13] at H; exact H) | (simp only [hji13] at H ⊢; exact H)
          have hji13_ : (IntKind.u64.wrap ((Int.tmod (IntKind.u64.wrap ((IntKind.u64.wrap ((Int.tmod (ji7) 2) + (Int.tmod (ji9) 2))) + (Int.tmod (ji11) 2))) 2) * 2 ^ min (ji5).toNat 64)) = ji13 := hji13
          have hji13z : (ji5) ≤ 64 → (IntKind.u64.wrap ((Int.tmod (IntKind.u64.wrap ((IntKind.u64.wrap ((Int.tmod (ji7) 2) + (Int.tmod (ji9) 2))) + (Int.tmod (ji11) 2))) 2) * 2 ^ (ji5).toNat)) = ji13 := shl_small hji13
          have c14b0 := eq_true (of_decide_eq_true (by first | (with_reducible assumption) | assumption) : 0 ≤ (ji5))
          obtain ⟨ji15, hji15⟩ : ∃ j_ : Int, (shl .u64 (IntKind.u64.wrap (Int.tdiv (IntKind.u64.wrap ((IntKind.u64.wrap ((Int.tmod (ji7) 2) + (Int.tmod (ji9) 2))) + (Int.tmod (ji11) 2))) 2)) (ji5)) = j_ := ⟨_, rfl⟩
          replace H : (vivariumref02_Sums.l0 k1 a0 a1 a2 (IntKind.u64.wrap (x8_1 + (ji13))) (IntKind.u64.wrap (x9_1 + (ji15))) (wrap64 (x10_1 + 1))) = some (r1, r2) := by first | (rw [hji15] at H; exact H) | (simp only [hji15] at H ⊢; exact H)
          have hji15_ : (IntKind.u64.wrap ((IntKind.u64.wrap (Int.tdiv (IntKind.u64.wrap ((IntKind.u64.wrap ((Int.tmod (ji7) 2) + (Int.tmod (ji9) 2))) + (Int.tmod (ji11) 2))) 2)) * 2 ^ min (ji5).toNat 64)) = ji15 := hji15
          have hji15z : (ji5) ≤ 64 → (IntKind.u64.wrap ((IntKind.u64.wrap (Int.tdiv (IntKind.u64.wrap ((IntKind.u64.wrap ((Int.tmod (ji7) 2) + (Int.tmod (ji9) 2))) + (Int.tmod (ji11) 2))) 2)) * 2 ^ (ji5).toNat)) = ji15 := shl_small hji15
          have H' := Aside0.mk H
          clear H
          go_wp2
          go_roundg k1
          case measure => have := HK1.out; omega
          case rel => exact ⟨(IntKind.u64.wrap (x8_1 + (ji13))), (IntKind.u64.wrap (x9_1 + (ji15))), (wrap64 (x10_1 + 1)), (by first | rfl | (simp; done) | (simp only [← hji13] <;> (first | rfl | simp)) | (simp [*]; done)), (by first | rfl | (simp; done) | (simp only [← hji15] <;> (first | rfl | simp)) | (simp [*]; done)), (by zs), H', ⟨by have := HK1.out; omega⟩, by repeat (first | exact Drawn0.refl _ | apply Drawn0.step)⟩
        · rw [if_neg c6] at H
          exact absurd H (by simp)
      · rw [if_neg c4] at H
        have c4b0 : decide (x10_1 < 64) = false := decide_eq_false c4
        clear c4
        simp only [Option.some.injEq, Prod.mk.injEq] at H
        obtain ⟨rfl, rfl⟩ := H
        go_wp2
        go_ret2
        exact ⟨by first | rfl | (simp; done) | (simp [*]; done), by repeat (first | exact Drawn0.refl _ | apply Drawn0.step)⟩

/-! ### vivariumlaw02_WordsSums: function 3 -/
def vivariumlaw02_WordsSums.f (k : Nat) (a0 : Int) (a1 : Int) (a2 : Int) : Option (Bool) := (vivariumlaw02_alive.f k).bind fun t246 => ((words_Half.f a0 a1).bind fun bt247 => ((vivariumref02_Sums.f k a0 a1 0).bind fun bt249 => ((words_Full.f a0 a1 a2).bind fun bt251 => ((vivariumref02_Sums.f k a0 a1 a2).bind fun bt253 => (if t246 = true then (if bt247.1 = bt249.1 then (if bt247.2 = bt249.2 then (if bt251.1 = bt253.1 then (some (bt251.2 == bt253.2)) else (some false)) else (some false)) else (some false)) else (some false))))))
theorem vivariumlaw02_WordsSums.mono : ∀ a0 a1 a2 k, LeO (vivariumlaw02_WordsSums.f k a0 a1 a2) (vivariumlaw02_WordsSums.f (k + 1) a0 a1 a2) := by
  intro a0 a1 a2 k
  unfold vivariumlaw02_WordsSums.f
  repeat' first
      | (with_reducible exact vivariumlaw02_alive.mono _)
      | (with_reducible exact vivariumref02_Sums.mono _ _ _ _)
      | (with_reducible exact LeO.refl _)
      | (with_reducible exact LeO.none _)
      | (with_reducible refine LeO.ite ?_ ?_)
      | (with_reducible refine LeO.bind ?_ (fun _ => ?_))
      | exact vivariumlaw02_alive.mono _
      | exact vivariumref02_Sums.mono _ _ _ _
      | exact LeO.none _
      | refine LeO.ite ?_ ?_
      | refine LeO.bind ?_ (fun _ => ?_)
set_option maxHeartbeats 8000000 in
set_option maxRecDepth 100000 in
theorem vivariumlaw02_WordsSums.calls (k : Nat) (a0 : Int) (a1 : Int) (a2 : Int) (r : Bool) (w : World) (h : vivariumlaw02_WordsSums.f k a0 a1 a2 = some r) :
    Calls Try.prog 3 #[.int .u64 a0, .int .u64 a1, .int .u64 a2] w fun e w' => e = .returned (.bool r) ∧ Below w.heap.size w w' := by
  have HB := Aside0.mk (Below.refl w.heap.size w)
  have H : ((vivariumlaw02_alive.f k).bind fun t246 => ((words_Half.f a0 a1).bind fun bt247 => ((vivariumref02_Sums.f k a0 a1 0).bind fun bt249 => ((words_Full.f a0 a1 a2).bind fun bt251 => ((vivariumref02_Sums.f k a0 a1 a2).bind fun bt253 => (if t246 = true then (if bt247.1 = bt249.1 then (if bt247.2 = bt249.2 then (if bt251.1 = bt253.1 then (some (bt251.2 == bt253.2)) else (some false)) else (some false)) else (some false)) else (some false))))))) = some r := h
  clear h
  replace H := Option.bind_eq_some_iff.mp H
  obtain ⟨t246, A40, H⟩ := H
  replace H : ((words_Half.f a0 a1).bind fun bt247 => ((vivariumref02_Sums.f k a0 a1 0).bind fun bt249 => ((words_Full.f a0 a1 a2).bind fun bt251 => ((vivariumref02_Sums.f k a0 a1 a2).bind fun bt253 => (if t246 = true then (if bt247.1 = bt249.1 then (if bt247.2 = bt249.2 then (if bt251.1 = bt253.1 then (some (bt251.2 == bt253.2)) else (some false)) else (some false)) else (some false)) else (some false)))))) = some r := H
  have A4 := Aside0.mk A40
  clear A40
  replace H := Option.bind_eq_some_iff.mp H
  obtain ⟨⟨t247, t248⟩, A50, H⟩ := H
  replace H : ((vivariumref02_Sums.f k a0 a1 0).bind fun bt249 => ((words_Full.f a0 a1 a2).bind fun bt251 => ((vivariumref02_Sums.f k a0 a1 a2).bind fun bt253 => (if t246 = true then (if t247 = bt249.1 then (if t248 = bt249.2 then (if bt251.1 = bt253.1 then (some (bt251.2 == bt253.2)) else (some false)) else (some false)) else (some false)) else (some false))))) = some r := H
  have A5 := Aside0.mk A50
  clear A50
  replace H := Option.bind_eq_some_iff.mp H
  obtain ⟨⟨t249, t250⟩, A60, H⟩ := H
  replace H : ((words_Full.f a0 a1 a2).bind fun bt251 => ((vivariumref02_Sums.f k a0 a1 a2).bind fun bt253 => (if t246 = true then (if t247 = t249 then (if t248 = t250 then (if bt251.1 = bt253.1 then (some (bt251.2 == bt253.2)) else (some false)) else (some false)) else (some false)) else (some false)))) = some r := H
  have A6 := Aside0.mk A60
  clear A60
  replace H := Option.bind_eq_some_iff.mp H
  obtain ⟨⟨t251, t252⟩, A70, H⟩ := H
  replace H : ((vivariumref02_Sums.f k a0 a1 a2).bind fun bt253 => (if t246 = true then (if t247 = t249 then (if t248 = t250 then (if t251 = bt253.1 then (some (t252 == bt253.2)) else (some false)) else (some false)) else (some false)) else (some false))) = some r := H
  have A7 := Aside0.mk A70
  clear A70
  replace H := Option.bind_eq_some_iff.mp H
  obtain ⟨⟨t253, t254⟩, A80, H⟩ := H
  replace H : (if t246 = true then (if t247 = t249 then (if t248 = t250 then (if t251 = t253 then (some (t252 == t254)) else (some false)) else (some false)) else (some false)) else (some false)) = some r := H
  have A8 := Aside0.mk A80
  clear A80
  by_cases c9 : t246 = true
  · subst c9
    have H1 : (if t247 = t249 then (if t248 = t250 then (if t251 = t253 then (some (t252 == t254)) else (some false)) else (some false)) else (some false)) = some r := by rw [if_pos rfl] at H; exact H
    clear H
    have H := H1
    clear H1
    by_cases c10 : t247 = t249
    · rw [if_pos c10] at H
      have c10b0 : (t247 == t249) = true := beq_iff_eq.mpr c10
      have c10b1 : (t247 != t249) = false := bne_eq_false_iff_eq.mpr c10
      clear c10
      by_cases c11 : t248 = t250
      · rw [if_pos c11] at H
        have c11b0 : (t248 == t250) = true := beq_iff_eq.mpr c11
        have c11b1 : (t248 != t250) = false := bne_eq_false_iff_eq.mpr c11
        clear c11
        by_cases c12 : t251 = t253
        · rw [if_pos c12] at H
          have c12b0 : (t251 == t253) = true := beq_iff_eq.mpr c12
          have c12b1 : (t251 != t253) = false := bne_eq_false_iff_eq.mpr c12
          clear c12
          obtain rfl := Option.some.inj H
          go_enter Try.func3, Try.ntmps3
          go_wp2_with (first | ((with_reducible refine gate_callee (f := 13) rfl ?_); refine goesL_ (some 16) rfl rfl Try.func13 (by kernel_rfl) rfl #[] rfl (by (try simp only [List.map_toArray, List.map_cons, List.map_nil]); first | done | rfl | (simp only [List.length_drop, List.length_take]; rfl)) ?_; (with_reducible refine (vivariumlaw02_alive.calls k  true _ A4.out).mono ?_); rintro e w13 ⟨rfl, hb⟩; refine ⟨_, rfl, ?_⟩; have n0_ := Aside0.mk (below_step (by zh) hb); clear HB; have HB := n0_; clear n0_; (try clear hb); (try clear hb2); (try clear hk); (try clear hi)) | ((with_reducible refine gate_callee (f := 14) rfl ?_); refine goesL_ (some 20) rfl rfl Try.func14 (by kernel_rfl) rfl #[.int .u64 a0, .int .u64 a1] rfl (by (try simp only [List.map_toArray, List.map_cons, List.map_nil]); first | done | rfl | (simp only [List.length_drop, List.length_take]; rfl)) ?_; (with_reducible refine (words_Half.calls a0 a1 t247 t248 _ A5.out).mono ?_); rintro e w' ⟨rfl, ⟨nd, rfl⟩⟩; refine ⟨_, rfl, ?_⟩) | ((with_reducible refine gate_callee (f := 15) rfl ?_); refine goesL_ (some 26) rfl rfl Try.func15 (by kernel_rfl) rfl #[.int .u64 a0, .int .u64 a1, .int .u64 0] rfl (by (try simp only [List.map_toArray, List.map_cons, List.map_nil]); first | done | rfl | (simp only [List.length_drop, List.length_take]; rfl)) ?_; (with_reducible refine (vivariumref02_Sums.calls k a0 a1 0 t249 t250 _ A6.out).mono ?_); rintro e w' ⟨rfl, ⟨nd, rfl⟩⟩; refine ⟨_, rfl, ?_⟩) | ((with_reducible refine gate_callee (f := 16) rfl ?_); refine goesL_ (some 33) rfl rfl Try.func16 (by kernel_rfl) rfl #[.int .u64 a0, .int .u64 a1, .int .u64 a2] rfl (by (try simp only [List.map_toArray, List.map_cons, List.map_nil]); first | done | rfl | (simp only [List.length_drop, List.length_take]; rfl)) ?_; (with_reducible refine (words_Full.calls a0 a1 a2 t251 t252 _ A7.out).mono ?_); rintro e w' ⟨rfl, ⟨nd, rfl⟩⟩; refine ⟨_, rfl, ?_⟩) | ((with_reducible refine gate_callee (f := 15) rfl ?_); refine goesL_ (some 40) rfl rfl Try.func15 (by kernel_rfl) rfl #[.int .u64 a0, .int .u64 a1, .int .u64 a2] rfl (by (try simp only [List.map_toArray, List.map_cons, List.map_nil]); first | done | rfl | (simp only [List.length_drop, List.length_take]; rfl)) ?_; (with_reducible refine (vivariumref02_Sums.calls k a0 a1 a2 t253 t254 _ A8.out).mono ?_); rintro e w' ⟨rfl, ⟨nd, rfl⟩⟩; refine ⟨_, rfl, ?_⟩))
          go_ret
          exact ⟨by first | rfl | (simp [errW_none, errW_some] <;> rfl) | (simp [*, errW_none, errW_some] <;> rfl), by zh⟩
        · rw [if_neg c12] at H
          have c12b0 : (t251 == t253) = false := beq_eq_false_iff_ne.mpr c12
          have c12b1 : (t251 != t253) = true := bne_iff_ne.mpr c12
          obtain rfl := Option.some.inj H
          go_enter Try.func3, Try.ntmps3
          go_wp2_with (first | ((with_reducible refine gate_callee (f := 13) rfl ?_); refine goesL_ (some 16) rfl rfl Try.func13 (by kernel_rfl) rfl #[] rfl (by (try simp only [List.map_toArray, List.map_cons, List.map_nil]); first | done | rfl | (simp only [List.length_drop, List.length_take]; rfl)) ?_; (with_reducible refine (vivariumlaw02_alive.calls k  true _ A4.out).mono ?_); rintro e w14 ⟨rfl, hb⟩; refine ⟨_, rfl, ?_⟩; have n0_ := Aside0.mk (below_step (by zh) hb); clear HB; have HB := n0_; clear n0_; (try clear hb); (try clear hb2); (try clear hk); (try clear hi)) | ((with_reducible refine gate_callee (f := 14) rfl ?_); refine goesL_ (some 20) rfl rfl Try.func14 (by kernel_rfl) rfl #[.int .u64 a0, .int .u64 a1] rfl (by (try simp only [List.map_toArray, List.map_cons, List.map_nil]); first | done | rfl | (simp only [List.length_drop, List.length_take]; rfl)) ?_; (with_reducible refine (words_Half.calls a0 a1 t247 t248 _ A5.out).mono ?_); rintro e w' ⟨rfl, ⟨nd, rfl⟩⟩; refine ⟨_, rfl, ?_⟩) | ((with_reducible refine gate_callee (f := 15) rfl ?_); refine goesL_ (some 26) rfl rfl Try.func15 (by kernel_rfl) rfl #[.int .u64 a0, .int .u64 a1, .int .u64 0] rfl (by (try simp only [List.map_toArray, List.map_cons, List.map_nil]); first | done | rfl | (simp only [List.length_drop, List.length_take]; rfl)) ?_; (with_reducible refine (vivariumref02_Sums.calls k a0 a1 0 t249 t250 _ A6.out).mono ?_); rintro e w' ⟨rfl, ⟨nd, rfl⟩⟩; refine ⟨_, rfl, ?_⟩) | ((with_reducible refine gate_callee (f := 16) rfl ?_); refine goesL_ (some 33) rfl rfl Try.func16 (by kernel_rfl) rfl #[.int .u64 a0, .int .u64 a1, .int .u64 a2] rfl (by (try simp only [List.map_toArray, List.map_cons, List.map_nil]); first | done | rfl | (simp only [List.length_drop, List.length_take]; rfl)) ?_; (with_reducible refine (words_Full.calls a0 a1 a2 t251 t252 _ A7.out).mono ?_); rintro e w' ⟨rfl, ⟨nd, rfl⟩⟩; refine ⟨_, rfl, ?_⟩) | ((with_reducible refine gate_callee (f := 15) rfl ?_); refine goesL_ (some 40) rfl rfl Try.func15 (by kernel_rfl) rfl #[.int .u64 a0, .int .u64 a1, .int .u64 a2] rfl (by (try simp only [List.map_toArray, List.map_cons, List.map_nil]); first | done | rfl | (simp only [List.length_drop, List.length_take]; rfl)) ?_; (with_reducible refine (vivariumref02_Sums.calls k a0 a1 a2 t253 t254 _ A8.out).mono ?_); rintro e w' ⟨rfl, ⟨nd, rfl⟩⟩; refine ⟨_, rfl, ?_⟩))
          go_ret
          exact ⟨by first | rfl | (simp [errW_none, errW_some] <;> rfl) | (simp [*, errW_none, errW_some] <;> rfl), by zh⟩
      · rw [if_neg c11] at H
        have c11b0 : (t248 == t250) = false := beq_eq_false_iff_ne.mpr c11
        have c11b1 : (t248 != t250) = true := bne_iff_ne.mpr c11
        obtain rfl := Option.some.inj H
        go_enter Try.func3, Try.ntmps3
        go_wp2_with (first | ((with_reducible refine gate_callee (f := 13) rfl ?_); refine goesL_ (some 16) rfl rfl Try.func13 (by kernel_rfl) rfl #[] rfl (by (try simp only [List.map_toArray, List.map_cons, List.map_nil]); first | done | rfl | (simp only [List.length_drop, List.length_take]; rfl)) ?_; (with_reducible refine (vivariumlaw02_alive.calls k  true _ A4.out).mono ?_); rintro e w15 ⟨rfl, hb⟩; refine ⟨_, rfl, ?_⟩; have n0_ := Aside0.mk (below_step (by zh) hb); clear HB; have HB := n0_; clear n0_; (try clear hb); (try clear hb2); (try clear hk); (try clear hi)) | ((with_reducible refine gate_callee (f := 14) rfl ?_); refine goesL_ (some 20) rfl rfl Try.func14 (by kernel_rfl) rfl #[.int .u64 a0, .int .u64 a1] rfl (by (try simp only [List.map_toArray, List.map_cons, List.map_nil]); first | done | rfl | (simp only [List.length_drop, List.length_take]; rfl)) ?_; (with_reducible refine (words_Half.calls a0 a1 t247 t248 _ A5.out).mono ?_); rintro e w' ⟨rfl, ⟨nd, rfl⟩⟩; refine ⟨_, rfl, ?_⟩) | ((with_reducible refine gate_callee (f := 15) rfl ?_); refine goesL_ (some 26) rfl rfl Try.func15 (by kernel_rfl) rfl #[.int .u64 a0, .int .u64 a1, .int .u64 0] rfl (by (try simp only [List.map_toArray, List.map_cons, List.map_nil]); first | done | rfl | (simp only [List.length_drop, List.length_take]; rfl)) ?_; (with_reducible refine (vivariumref02_Sums.calls k a0 a1 0 t249 t250 _ A6.out).mono ?_); rintro e w' ⟨rfl, ⟨nd, rfl⟩⟩; refine ⟨_, rfl, ?_⟩) | ((with_reducible refine gate_callee (f := 16) rfl ?_); refine goesL_ (some 33) rfl rfl Try.func16 (by kernel_rfl) rfl #[.int .u64 a0, .int .u64 a1, .int .u64 a2] rfl (by (try simp only [List.map_toArray, List.map_cons, List.map_nil]); first | done | rfl | (simp only [List.length_drop, List.length_take]; rfl)) ?_; (with_reducible refine (words_Full.calls a0 a1 a2 t251 t252 _ A7.out).mono ?_); rintro e w' ⟨rfl, ⟨nd, rfl⟩⟩; refine ⟨_, rfl, ?_⟩) | ((with_reducible refine gate_callee (f := 15) rfl ?_); refine goesL_ (some 40) rfl rfl Try.func15 (by kernel_rfl) rfl #[.int .u64 a0, .int .u64 a1, .int .u64 a2] rfl (by (try simp only [List.map_toArray, List.map_cons, List.map_nil]); first | done | rfl | (simp only [List.length_drop, List.length_take]; rfl)) ?_; (with_reducible refine (vivariumref02_Sums.calls k a0 a1 a2 t253 t254 _ A8.out).mono ?_); rintro e w' ⟨rfl, ⟨nd, rfl⟩⟩; refine ⟨_, rfl, ?_⟩))
        go_ret
        exact ⟨by first | rfl | (simp [errW_none, errW_some] <;> rfl) | (simp [*, errW_none, errW_some] <;> rfl), by zh⟩
    · rw [if_neg c10] at H
      have c10b0 : (t247 == t249) = false := beq_eq_false_iff_ne.mpr c10
      have c10b1 : (t247 != t249) = true := bne_iff_ne.mpr c10
      obtain rfl := Option.some.inj H
      go_enter Try.func3, Try.ntmps3
      go_wp2_with (first | ((with_reducible refine gate_callee (f := 13) rfl ?_); refine goesL_ (some 16) rfl rfl Try.func13 (by kernel_rfl) rfl #[] rfl (by (try simp only [List.map_toArray, List.map_cons, List.map_nil]); first | done | rfl | (simp only [List.length_drop, List.length_take]; rfl)) ?_; (with_reducible refine (vivariumlaw02_alive.calls k  true _ A4.out).mono ?_); rintro e w16 ⟨rfl, hb⟩; refine ⟨_, rfl, ?_⟩; have n0_ := Aside0.mk (below_step (by zh) hb); clear HB; have HB := n0_; clear n0_; (try clear hb); (try clear hb2); (try clear hk); (try clear hi)) | ((with_reducible refine gate_callee (f := 14) rfl ?_); refine goesL_ (some 20) rfl rfl Try.func14 (by kernel_rfl) rfl #[.int .u64 a0, .int .u64 a1] rfl (by (try simp only [List.map_toArray, List.map_cons, List.map_nil]); first | done | rfl | (simp only [List.length_drop, List.length_take]; rfl)) ?_; (with_reducible refine (words_Half.calls a0 a1 t247 t248 _ A5.out).mono ?_); rintro e w' ⟨rfl, ⟨nd, rfl⟩⟩; refine ⟨_, rfl, ?_⟩) | ((with_reducible refine gate_callee (f := 15) rfl ?_); refine goesL_ (some 26) rfl rfl Try.func15 (by kernel_rfl) rfl #[.int .u64 a0, .int .u64 a1, .int .u64 0] rfl (by (try simp only [List.map_toArray, List.map_cons, List.map_nil]); first | done | rfl | (simp only [List.length_drop, List.length_take]; rfl)) ?_; (with_reducible refine (vivariumref02_Sums.calls k a0 a1 0 t249 t250 _ A6.out).mono ?_); rintro e w' ⟨rfl, ⟨nd, rfl⟩⟩; refine ⟨_, rfl, ?_⟩) | ((with_reducible refine gate_callee (f := 16) rfl ?_); refine goesL_ (some 33) rfl rfl Try.func16 (by kernel_rfl) rfl #[.int .u64 a0, .int .u64 a1, .int .u64 a2] rfl (by (try simp only [List.map_toArray, List.map_cons, List.map_nil]); first | done | rfl | (simp only [List.length_drop, List.length_take]; rfl)) ?_; (with_reducible refine (words_Full.calls a0 a1 a2 t251 t252 _ A7.out).mono ?_); rintro e w' ⟨rfl, ⟨nd, rfl⟩⟩; refine ⟨_, rfl, ?_⟩) | ((with_reducible refine gate_callee (f := 15) rfl ?_); refine goesL_ (some 40) rfl rfl Try.func15 (by kernel_rfl) rfl #[.int .u64 a0, .int .u64 a1, .int .u64 a2] rfl (by (try simp only [List.map_toArray, List.map_cons, List.map_nil]); first | done | rfl | (simp only [List.length_drop, List.length_take]; rfl)) ?_; (with_reducible refine (vivariumref02_Sums.calls k a0 a1 a2 t253 t254 _ A8.out).mono ?_); rintro e w' ⟨rfl, ⟨nd, rfl⟩⟩; refine ⟨_, rfl, ?_⟩))
      go_ret
      exact ⟨by first | rfl | (simp [errW_none, errW_some] <;> rfl) | (simp [*, errW_none, errW_some] <;> rfl), by zh⟩
  · replace c9 := Bool.eq_false_iff.mpr c9
    subst c9
    have H1 : (some false) = some r := by rw [if_neg (show ¬ (false = true) by decide)] at H; exact H
    clear H
    have H := H1
    clear H1
    obtain rfl := Option.some.inj H
    go_enter Try.func3, Try.ntmps3
    go_wp2_with (first | ((with_reducible refine gate_callee (f := 13) rfl ?_); refine goesL_ (some 16) rfl rfl Try.func13 (by kernel_rfl) rfl #[] rfl (by (try simp only [List.map_toArray, List.map_cons, List.map_nil]); first | done | rfl | (simp only [List.length_drop, List.length_take]; rfl)) ?_; (with_reducible refine (vivariumlaw02_alive.calls k  false _ A4.out).mono ?_); rintro e w17 ⟨rfl, hb⟩; refine ⟨_, rfl, ?_⟩; have n0_ := Aside0.mk (below_step (by zh) hb); clear HB; have HB := n0_; clear n0_; (try clear hb); (try clear hb2); (try clear hk); (try clear hi)) | ((with_reducible refine gate_callee (f := 14) rfl ?_); refine goesL_ (some 20) rfl rfl Try.func14 (by kernel_rfl) rfl #[.int .u64 a0, .int .u64 a1] rfl (by (try simp only [List.map_toArray, List.map_cons, List.map_nil]); first | done | rfl | (simp only [List.length_drop, List.length_take]; rfl)) ?_; (with_reducible refine (words_Half.calls a0 a1 t247 t248 _ A5.out).mono ?_); rintro e w' ⟨rfl, ⟨nd, rfl⟩⟩; refine ⟨_, rfl, ?_⟩) | ((with_reducible refine gate_callee (f := 15) rfl ?_); refine goesL_ (some 26) rfl rfl Try.func15 (by kernel_rfl) rfl #[.int .u64 a0, .int .u64 a1, .int .u64 0] rfl (by (try simp only [List.map_toArray, List.map_cons, List.map_nil]); first | done | rfl | (simp only [List.length_drop, List.length_take]; rfl)) ?_; (with_reducible refine (vivariumref02_Sums.calls k a0 a1 0 t249 t250 _ A6.out).mono ?_); rintro e w' ⟨rfl, ⟨nd, rfl⟩⟩; refine ⟨_, rfl, ?_⟩) | ((with_reducible refine gate_callee (f := 16) rfl ?_); refine goesL_ (some 33) rfl rfl Try.func16 (by kernel_rfl) rfl #[.int .u64 a0, .int .u64 a1, .int .u64 a2] rfl (by (try simp only [List.map_toArray, List.map_cons, List.map_nil]); first | done | rfl | (simp only [List.length_drop, List.length_take]; rfl)) ?_; (with_reducible refine (words_Full.calls a0 a1 a2 t251 t252 _ A7.out).mono ?_); rintro e w' ⟨rfl, ⟨nd, rfl⟩⟩; refine ⟨_, rfl, ?_⟩) | ((with_reducible refine gate_callee (f := 15) rfl ?_); refine goesL_ (some 40) rfl rfl Try.func15 (by kernel_rfl) rfl #[.int .u64 a0, .int .u64 a1, .int .u64 a2] rfl (by (try simp only [List.map_toArray, List.map_cons, List.map_nil]); first | done | rfl | (simp only [List.length_drop, List.length_take]; rfl)) ?_; (with_reducible refine (vivariumref02_Sums.calls k a0 a1 a2 t253 t254 _ A8.out).mono ?_); rintro e w' ⟨rfl, ⟨nd, rfl⟩⟩; refine ⟨_, rfl, ?_⟩))
    go_ret
    exact ⟨by first | rfl | (simp [errW_none, errW_some] <;> rfl) | (simp [*, errW_none, errW_some] <;> rfl), by zh⟩

/-- THE ONE PURE STATEMENT of vivariumlaw02_WordsSums: yours. -/
def vivariumlaw02_WordsSums.Pure : Prop := ∀ (a0 : Int) (a1 : Int) (a2 : Int), (Lit.int .u64 a0).wf = true → (Lit.int .u64 a1).wf = true → (Lit.int .u64 a2).wf = true → ∃ k, vivariumlaw02_WordsSums.f k a0 a1 a2 = some true
theorem vivariumlaw02_WordsSums.walk (P : vivariumlaw02_WordsSums.Pure) (a0 : Int) (a1 : Int) (a2 : Int) (w : World) (w0 : (Lit.int .u64 a0).wf = true) (w1 : (Lit.int .u64 a1).wf = true) (w2 : (Lit.int .u64 a2).wf = true) :
    Calls Try.prog 3 #[.int .u64 a0, .int .u64 a1, .int .u64 a2] w fun e w' => e = .returned (.bool true) ∧ Below w.heap.size w w' := by
  obtain ⟨k, h⟩ := P a0 a1 a2 w0 w1 w2
  refine (vivariumlaw02_WordsSums.calls k a0 a1 a2 true w h).mono ?_
  rintro e w' ⟨rfl, hd⟩
  exact ⟨rfl, hd⟩

/-! ### vivariumlaw02_WordsPlaces: function 4 -/
def vivariumlaw02_WordsPlaces.l0 : Nat → Int → Int → Int → Bool → Int → Int → Int → Int → Int → Option (Bool)
  | 0, _, _, _, _, _, _, _, _, _ => none
  | k + 1, x0, x1, x2, x7, x8, x9, x10, x11, x12 => if x12 < 64 then (if 0 ≤ (IntKind.u64.wrap (x12)) then (if (IntKind.u64.wrap ((Go.bits .and .u64 (shr .u64 x0 (IntKind.u64.wrap (x12))) 1) + (Go.bits .and .u64 (shr .u64 x1 (IntKind.u64.wrap (x12))) 1))) = (IntKind.u64.wrap ((Go.bits .and .u64 (shr .u64 x8 (IntKind.u64.wrap (x12))) 1) + (IntKind.u64.wrap (2 * (Go.bits .and .u64 (shr .u64 x9 (IntKind.u64.wrap (x12))) 1))))) then (if (IntKind.u64.wrap ((IntKind.u64.wrap ((Go.bits .and .u64 (shr .u64 x0 (IntKind.u64.wrap (x12))) 1) + (Go.bits .and .u64 (shr .u64 x1 (IntKind.u64.wrap (x12))) 1))) + (Go.bits .and .u64 (shr .u64 x2 (IntKind.u64.wrap (x12))) 1))) = (IntKind.u64.wrap ((Go.bits .and .u64 (shr .u64 x10 (IntKind.u64.wrap (x12))) 1) + (IntKind.u64.wrap (2 * (Go.bits .and .u64 (shr .u64 x11 (IntKind.u64.wrap (x12))) 1))))) then (vivariumlaw02_WordsPlaces.l0 k x0 x1 x2 x7 x8 x9 x10 x11 (wrap64 (x12 + 1))) else (some false)) else (some false)) else (none)) else (some x7)
def vivariumlaw02_WordsPlaces.f (k : Nat) (a0 : Int) (a1 : Int) (a2 : Int) : Option (Bool) := (vivariumlaw02_alive.f k).bind fun t255 => ((words_Half.f a0 a1).bind fun bt256 => ((words_Full.f a0 a1 a2).bind fun bt258 => (vivariumlaw02_WordsPlaces.l0 k a0 a1 a2 t255 bt256.1 bt256.2 bt258.1 bt258.2 0)))
theorem vivariumlaw02_WordsPlaces.mono_l : ∀ k, (∀ y0 y1 y2 y3 y4 y5 y6 y7 y8, LeO (vivariumlaw02_WordsPlaces.l0 k y0 y1 y2 y3 y4 y5 y6 y7 y8) (vivariumlaw02_WordsPlaces.l0 (k + 1) y0 y1 y2 y3 y4 y5 y6 y7 y8))
  | 0 => fun _ _ _ _ _ _ _ _ _ r h => by simp [vivariumlaw02_WordsPlaces.l0] at h
  | k + 1 => by
    have ih0 := vivariumlaw02_WordsPlaces.mono_l k
    · intro y0 y1 y2 y3 y4 y5 y6 y7 y8
      unfold vivariumlaw02_WordsPlaces.l0
      repeat' first
      | (with_reducible exact ih0 _ _ _ _ _ _ _ _ _)
      | (with_reducible exact vivariumlaw02_alive.mono _)
      | (with_reducible exact LeO.refl _)
      | (with_reducible exact LeO.none _)
      | (with_reducible refine LeO.ite ?_ ?_)
      | (with_reducible refine LeO.bind ?_ (fun _ => ?_))
      | exact ih0 _ _ _ _ _ _ _ _ _
      | exact vivariumlaw02_alive.mono _
      | exact LeO.none _
      | refine LeO.ite ?_ ?_
      | refine LeO.bind ?_ (fun _ => ?_)
theorem vivariumlaw02_WordsPlaces.mono : ∀ a0 a1 a2 k, LeO (vivariumlaw02_WordsPlaces.f k a0 a1 a2) (vivariumlaw02_WordsPlaces.f (k + 1) a0 a1 a2) := by
  intro a0 a1 a2 k
  have ih0 := vivariumlaw02_WordsPlaces.mono_l k
  unfold vivariumlaw02_WordsPlaces.f
  repeat' first
      | (with_reducible exact ih0 _ _ _ _ _ _ _ _ _)
      | (with_reducible exact vivariumlaw02_alive.mono _)
      | (with_reducible exact LeO.refl _)
      | (with_reducible exact LeO.none _)
      | (with_reducible refine LeO.ite ?_ ?_)
      | (with_reducible refine LeO.bind ?_ (fun _ => ?_))
      | exact ih0 _ _ _ _ _ _ _ _ _
      | exact vivariumlaw02_alive.mono _
      | exact LeO.none _
      | refine LeO.ite ?_ ?_
      | refine LeO.bind ?_ (fun _ => ?_)
set_option maxHeartbeats 8000000 in
set_option maxRecDepth 100000 in
theorem vivariumlaw02_WordsPlaces.calls (k : Nat) (a0 : Int) (a1 : Int) (a2 : Int) (r : Bool) (w : World) (h : vivariumlaw02_WordsPlaces.f k a0 a1 a2 = some r) :
    Calls Try.prog 4 #[.int .u64 a0, .int .u64 a1, .int .u64 a2] w fun e w' => e = .returned (.bool r) ∧ Below w.heap.size w w' := by
  have HB := Aside0.mk (Below.refl w.heap.size w)
  have H : ((vivariumlaw02_alive.f k).bind fun t255 => ((words_Half.f a0 a1).bind fun bt256 => ((words_Full.f a0 a1 a2).bind fun bt258 => (vivariumlaw02_WordsPlaces.l0 k a0 a1 a2 t255 bt256.1 bt256.2 bt258.1 bt258.2 0)))) = some r := h
  clear h
  replace H := Option.bind_eq_some_iff.mp H
  obtain ⟨t255, A40, H⟩ := H
  replace H : ((words_Half.f a0 a1).bind fun bt256 => ((words_Full.f a0 a1 a2).bind fun bt258 => (vivariumlaw02_WordsPlaces.l0 k a0 a1 a2 t255 bt256.1 bt256.2 bt258.1 bt258.2 0))) = some r := H
  have A4 := Aside0.mk A40
  clear A40
  replace H := Option.bind_eq_some_iff.mp H
  obtain ⟨⟨t256, t257⟩, A50, H⟩ := H
  replace H : ((words_Full.f a0 a1 a2).bind fun bt258 => (vivariumlaw02_WordsPlaces.l0 k a0 a1 a2 t255 t256 t257 bt258.1 bt258.2 0)) = some r := H
  have A5 := Aside0.mk A50
  clear A50
  replace H := Option.bind_eq_some_iff.mp H
  obtain ⟨⟨t258, t259⟩, A60, H⟩ := H
  replace H : (vivariumlaw02_WordsPlaces.l0 k a0 a1 a2 t255 t256 t257 t258 t259 0) = some r := H
  have A6 := Aside0.mk A60
  clear A60
  have H' := Aside0.mk H
  clear H
  go_enter Try.func4, Try.ntmps4
  go_wp2_with (first | ((with_reducible refine gate_callee (f := 13) rfl ?_); refine goesL_ (some 16) rfl rfl Try.func13 (by kernel_rfl) rfl #[] rfl (by (try simp only [List.map_toArray, List.map_cons, List.map_nil]); first | done | rfl | (simp only [List.length_drop, List.length_take]; rfl)) ?_; (with_reducible refine (vivariumlaw02_alive.calls k  t255 _ A4.out).mono ?_); rintro e w7 ⟨rfl, hb⟩; refine ⟨_, rfl, ?_⟩; have n0_ := Aside0.mk (below_step (by zh) hb); clear HB; have HB := n0_; clear n0_; (try clear hb); (try clear hb2); (try clear hk); (try clear hi)) | ((with_reducible refine gate_callee (f := 14) rfl ?_); refine goesL_ (some 20) rfl rfl Try.func14 (by kernel_rfl) rfl #[.int .u64 a0, .int .u64 a1] rfl (by (try simp only [List.map_toArray, List.map_cons, List.map_nil]); first | done | rfl | (simp only [List.length_drop, List.length_take]; rfl)) ?_; (with_reducible refine (words_Half.calls a0 a1 t256 t257 _ A5.out).mono ?_); rintro e w' ⟨rfl, ⟨nd, rfl⟩⟩; refine ⟨_, rfl, ?_⟩) | ((with_reducible refine gate_callee (f := 16) rfl ?_); refine goesL_ (some 27) rfl rfl Try.func16 (by kernel_rfl) rfl #[.int .u64 a0, .int .u64 a1, .int .u64 a2] rfl (by (try simp only [List.map_toArray, List.map_cons, List.map_nil]); first | done | rfl | (simp only [List.length_drop, List.length_take]; rfl)) ?_; (with_reducible refine (words_Full.calls a0 a1 a2 t258 t259 _ A6.out).mono ?_); rintro e w' ⟨rfl, ⟨nd, rfl⟩⟩; refine ⟨_, rfl, ?_⟩))
  go_loopg [12] k (fun kq v12 w' => ∃ (x12_1 : Int), v12 = .int .i64 x12_1 ∧ Aside0 (vivariumlaw02_WordsPlaces.l0 kq a0 a1 a2 t255 t256 t257 t258 t259 x12_1 = some r) ∧ Aside0 (kq ≤ k) ∧ Aside0 (Below w.heap.size w w'))
  case atStart => exact ⟨(0), (by zs), H', ⟨Nat.le_refl _⟩, ⟨by zh⟩⟩
  case round =>
    clear H'
    try clear c1
    try clear p2
    try clear c4
    obtain ⟨x12_1, rfl, HA, HK1, HB⟩ := hrel
    cases gk with
    | zero => exact absurd HA.out (by simp [vivariumlaw02_WordsPlaces.l0])
    | succ k1 =>
      have H := HA.out
      clear HA
      simp only [vivariumlaw02_WordsPlaces.l0] at H
      by_cases c8 : x12_1 < 64
      · rw [if_pos c8] at H
        have c8b0 : decide (x12_1 < 64) = true := decide_eq_true c8
        clear c8
        obtain ⟨ji9, hji9⟩ : ∃ j_ : Int, (IntKind.u64.wrap (x12_1)) = j_ := ⟨_, rfl⟩
        replace H : (if 0 ≤ (ji9) then (if (IntKind.u64.wrap ((Go.bits .and .u64 (shr .u64 a0 (ji9)) 1) + (Go.bits .and .u64 (shr .u64 a1 (ji9)) 1))) = (IntKind.u64.wrap ((Go.bits .and .u64 (shr .u64 t256 (ji9)) 1) + (IntKind.u64.wrap (2 * (Go.bits .and .u64 (shr .u64 t257 (ji9)) 1))))) then (if (IntKind.u64.wrap ((IntKind.u64.wrap ((Go.bits .and .u64 (shr .u64 a0 (ji9)) 1) + (Go.bits .and .u64 (shr .u64 a1 (ji9)) 1))) + (Go.bits .and .u64 (shr .u64 a2 (ji9)) 1))) = (IntKind.u64.wrap ((Go.bits .and .u64 (shr .u64 t258 (ji9)) 1) + (IntKind.u64.wrap (2 * (Go.bits .and .u64 (shr .u64 t259 (ji9)) 1))))) then (vivariumlaw02_WordsPlaces.l0 k1 a0 a1 a2 t255 t256 t257 t258 t259 (wrap64 (x12_1 + 1))) else (some false)) else (some false)) else (none)) = some r := by first | (rw [hji9] at H; exact H) | (simp only [hji9] at H ⊢; exact H)
        by_cases c10 : 0 ≤ (ji9)
        · rw [if_pos c10] at H
          have c10b0 := eq_true c10
          have c10b1 : decide (0 ≤ (ji9)) = true := decide_eq_true c10
          clear c10
          obtain ⟨ji11, hji11⟩ : ∃ j_ : Int, (shr .u64 a0 (ji9)) = j_ := ⟨_, rfl⟩
          replace H : (if (IntKind.u64.wrap ((Go.bits .and .u64 (ji11) 1) + (Go.bits .and .u64 (shr .u64 a1 (ji9)) 1))) = (IntKind.u64.wrap ((Go.bits .and .u64 (shr .u64 t256 (ji9)) 1) + (IntKind.u64.wrap (2 * (Go.bits .and .u64 (shr .u64 t257 (ji9)) 1))))) then (if (IntKind.u64.wrap ((IntKind.u64.wrap ((Go.bits .and .u64 (ji11) 1) + (Go.bits .and .u64 (shr .u64 a1 (ji9)) 1))) + (Go.bits .and .u64 (shr .u64 a2 (ji9)) 1))) = (IntKind.u64.wrap ((Go.bits .and .u64 (shr .u64 t258 (ji9)) 1) + (IntKind.u64.wrap (2 * (Go.bits .and .u64 (shr .u64 t259 (ji9)) 1))))) then (vivariumlaw02_WordsPlaces.l0 k1 a0 a1 a2 t255 t256 t257 t258 t259 (wrap64 (x12_1 + 1))) else (some false)) else (some false)) = some r := by first | (rw [hji11] at H; exact H) | (simp only [hji11] at H ⊢; exact H)
          have hji11_ : (a0 / 2 ^ min (ji9).toNat 64) = ji11 := hji11
          have hji11z : (ji9) ≤ 64 → (a0 / 2 ^ (ji9).toNat) = ji11 := shr_small hji11
          have c12b0 := eq_true (of_decide_eq_true (by first | (with_reducible assumption) | assumption) : 0 ≤ (ji9))
          obtain ⟨ji13, hji13⟩ : ∃ j_ : Int, (shr .u64 a1 (ji9)) = j_ := ⟨_, rfl⟩
          replace H : (if (IntKind.u64.wrap ((Go.bits .and .u64 (ji11) 1) + (Go.bits .and .u64 (ji13) 1))) = (IntKind.u64.wrap ((Go.bits .and .u64 (shr .u64 t256 (ji9)) 1) + (IntKind.u64.wrap (2 * (Go.bits .and .u64 (shr .u64 t257 (ji9)) 1))))) then (if (IntKind.u64.wrap ((IntKind.u64.wrap ((Go.bits .and .u64 (ji11) 1) + (Go.bits .and .u64 (ji13) 1))) + (Go.bits .and .u64 (shr .u64 a2 (ji9)) 1))) = (IntKind.u64.wrap ((Go.bits .and .u64 (shr .u64 t258 (ji9)) 1) + (IntKind.u64.wrap (2 * (Go.bits .and .u64 (shr .u64 t259 (ji9)) 1))))) then (vivariumlaw02_WordsPlaces.l0 k1 a0 a1 a2 t255 t256 t257 t258 t259 (wrap64 (x12_1 + 1))) else (some false)) else (some false)) = some r := by first | (rw [hji13] at H; exact H) | (simp only [hji13] at H ⊢; exact H)
          have hji13_ : (a1 / 2 ^ min (ji9).toNat 64) = ji13 := hji13
          have hji13z : (ji9) ≤ 64 → (a1 / 2 ^ (ji9).toNat) = ji13 := shr_small hji13
          have c14b0 := eq_true (of_decide_eq_true (by first | (with_reducible assumption) | assumption) : 0 ≤ (ji9))
          obtain ⟨ji15, hji15⟩ : ∃ j_ : Int, (shr .u64 a2 (ji9)) = j_ := ⟨_, rfl⟩
          replace H : (if (IntKind.u64.wrap ((Go.bits .and .u64 (ji11) 1) + (Go.bits .and .u64 (ji13) 1))) = (IntKind.u64.wrap ((Go.bits .and .u64 (shr .u64 t256 (ji9)) 1) + (IntKind.u64.wrap (2 * (Go.bits .and .u64 (shr .u64 t257 (ji9)) 1))))) then (if (IntKind.u64.wrap ((IntKind.u64.wrap ((Go.bits .and .u64 (ji11) 1) + (Go.bits .and .u64 (ji13) 1))) + (Go.bits .and .u64 (ji15) 1))) = (IntKind.u64.wrap ((Go.bits .and .u64 (shr .u64 t258 (ji9)) 1) + (IntKind.u64.wrap (2 * (Go.bits .and .u64 (shr .u64 t259 (ji9)) 1))))) then (vivariumlaw02_WordsPlaces.l0 k1 a0 a1 a2 t255 t256 t257 t258 t259 (wrap64 (x12_1 + 1))) else (some false)) else (some false)) = some r := by first | (rw [hji15] at H; exact H) | (simp only [hji15] at H ⊢; exact H)
          have hji15_ : (a2 / 2 ^ min (ji9).toNat 64) = ji15 := hji15
          have hji15z : (ji9) ≤ 64 → (a2 / 2 ^ (ji9).toNat) = ji15 := shr_small hji15
          have c16b0 := eq_true (of_decide_eq_true (by first | (with_reducible assumption) | assumption) : 0 ≤ (ji9))
          obtain ⟨ji17, hji17⟩ : ∃ j_ : Int, (shr .u64 t256 (ji9)) = j_ := ⟨_, rfl⟩
          replace H : (if (IntKind.u64.wrap ((Go.bits .and .u64 (ji11) 1) + (Go.bits .and .u64 (ji13) 1))) = (IntKind.u64.wrap ((Go.bits .and .u64 (ji17) 1) + (IntKind.u64.wrap (2 * (Go.bits .and .u64 (shr .u64 t257 (ji9)) 1))))) then (if (IntKind.u64.wrap ((IntKind.u64.wrap ((Go.bits .and .u64 (ji11) 1) + (Go.bits .and .u64 (ji13) 1))) + (Go.bits .and .u64 (ji15) 1))) = (IntKind.u64.wrap ((Go.bits .and .u64 (shr .u64 t258 (ji9)) 1) + (IntKind.u64.wrap (2 * (Go.bits .and .u64 (shr .u64 t259 (ji9)) 1))))) then (vivariumlaw02_WordsPlaces.l0 k1 a0 a1 a2 t255 t256 t257 t258 t259 (wrap64 (x12_1 + 1))) else (some false)) else (some false)) = some r := by first | (rw [hji17] at H; exact H) | (simp only [hji17] at H ⊢; exact H)
          have hji17_ : (t256 / 2 ^ min (ji9).toNat 64) = ji17 := hji17
          have hji17z : (ji9) ≤ 64 → (t256 / 2 ^ (ji9).toNat) = ji17 := shr_small hji17
          have c18b0 := eq_true (of_decide_eq_true (by first | (with_reducible assumption) | assumption) : 0 ≤ (ji9))
          obtain ⟨ji19, hji19⟩ : ∃ j_ : Int, (shr .u64 t257 (ji9)) = j_ := ⟨_, rfl⟩
          replace H : (if (IntKind.u64.wrap ((Go.bits .and .u64 (ji11) 1) + (Go.bits .and .u64 (ji13) 1))) = (IntKind.u64.wrap ((Go.bits .and .u64 (ji17) 1) + (IntKind.u64.wrap (2 * (Go.bits .and .u64 (ji19) 1))))) then (if (IntKind.u64.wrap ((IntKind.u64.wrap ((Go.bits .and .u64 (ji11) 1) + (Go.bits .and .u64 (ji13) 1))) + (Go.bits .and .u64 (ji15) 1))) = (IntKind.u64.wrap ((Go.bits .and .u64 (shr .u64 t258 (ji9)) 1) + (IntKind.u64.wrap (2 * (Go.bits .and .u64 (shr .u64 t259 (ji9)) 1))))) then (vivariumlaw02_WordsPlaces.l0 k1 a0 a1 a2 t255 t256 t257 t258 t259 (wrap64 (x12_1 + 1))) else (some false)) else (some false)) = some r := by first | (rw [hji19] at H; exact H) | (simp only [hji19] at H ⊢; exact H)
          have hji19_ : (t257 / 2 ^ min (ji9).toNat 64) = ji19 := hji19
          have hji19z : (ji9) ≤ 64 → (t257 / 2 ^ (ji9).toNat) = ji19 := shr_small hji19
          by_cases c20 : (IntKind.u64.wrap ((Go.bits .and .u64 (ji11) 1) + (Go.bits .and .u64 (ji13) 1))) = (IntKind.u64.wrap ((Go.bits .and .u64 (ji17) 1) + (IntKind.u64.wrap (2 * (Go.bits .and .u64 (ji19) 1)))))
          · rw [if_pos c20] at H
            have c20b0 : ((IntKind.u64.wrap ((Go.bits .and .u64 (ji11) 1) + (Go.bits .and .u64 (ji13) 1))) == (IntKind.u64.wrap ((Go.bits .and .u64 (ji17) 1) + (IntKind.u64.wrap (2 * (Go.bits .and .u64 (ji19) 1)))))) = true := beq_iff_eq.mpr c20
            have c20b1 : ((IntKind.u64.wrap ((Go.bits .and .u64 (ji11) 1) + (Go.bits .and .u64 (ji13) 1))) != (IntKind.u64.wrap ((Go.bits .and .u64 (ji17) 1) + (IntKind.u64.wrap (2 * (Go.bits .and .u64 (ji19) 1)))))) = false := bne_eq_false_iff_eq.mpr c20
            clear c20
            have c21b0 := eq_true (of_decide_eq_true (by first | (with_reducible assumption) | assumption) : 0 ≤ (ji9))
            obtain ⟨ji22, hji22⟩ : ∃ j_ : Int, (shr .u64 t258 (ji9)) = j_ := ⟨_, rfl⟩
            replace H : (if (IntKind.u64.wrap ((IntKind.u64.wrap ((Go.bits .and .u64 (ji11) 1) + (Go.bits .and .u64 (ji13) 1))) + (Go.bits .and .u64 (ji15) 1))) = (IntKind.u64.wrap ((Go.bits .and .u64 (ji22) 1) + (IntKind.u64.wrap (2 * (Go.bits .and .u64 (shr .u64 t259 (ji9)) 1))))) then (vivariumlaw02_WordsPlaces.l0 k1 a0 a1 a2 t255 t256 t257 t258 t259 (wrap64 (x12_1 + 1))) else (some false)) = some r := by first | (rw [hji22] at H; exact H) | (simp only [hji22] at H ⊢; exact H)
            have hji22_ : (t258 / 2 ^ min (ji9).toNat 64) = ji22 := hji22
            have hji22z : (ji9) ≤ 64 → (t258 / 2 ^ (ji9).toNat) = ji22 := shr_small hji22
            have c23b0 := eq_true (of_decide_eq_true (by first | (with_reducible assumption) | assumption) : 0 ≤ (ji9))
            obtain ⟨ji24, hji24⟩ : ∃ j_ : Int, (shr .u64 t259 (ji9)) = j_ := ⟨_, rfl⟩
            replace H : (if (IntKind.u64.wrap ((IntKind.u64.wrap ((Go.bits .and .u64 (ji11) 1) + (Go.bits .and .u64 (ji13) 1))) + (Go.bits .and .u64 (ji15) 1))) = (IntKind.u64.wrap ((Go.bits .and .u64 (ji22) 1) + (IntKind.u64.wrap (2 * (Go.bits .and .u64 (ji24) 1))))) then (vivariumlaw02_WordsPlaces.l0 k1 a0 a1 a2 t255 t256 t257 t258 t259 (wrap64 (x12_1 + 1))) else (some false)) = some r := by first | (rw [hji24] at H; exact H) | (simp only [hji24] at H ⊢; exact H)
            have hji24_ : (t259 / 2 ^ min (ji9).toNat 64) = ji24 := hji24
            have hji24z : (ji9) ≤ 64 → (t259 / 2 ^ (ji9).toNat) = ji24 := shr_small hji24
            by_cases c25 : (IntKind.u64.wrap ((IntKind.u64.wrap ((Go.bits .and .u64 (ji11) 1) + (Go.bits .and .u64 (ji13) 1))) + (Go.bits .and .u64 (ji15) 1))) = (IntKind.u64.wrap ((Go.bits .and .u64 (ji22) 1) + (IntKind.u64.wrap (2 * (Go.bits .and .u64 (ji24) 1)))))
            · rw [if_pos c25] at H
              have c25b0 : ((IntKind.u64.wrap ((IntKind.u64.wrap ((Go.bits .and .u64 (ji11) 1) + (Go.bits .and .u64 (ji13) 1))) + (Go.bits .and .u64 (ji15) 1))) == (IntKind.u64.wrap ((Go.bits .and .u64 (ji22) 1) + (IntKind.u64.wrap (2 * (Go.bits .and .u64 (ji24) 1)))))) = true := beq_iff_eq.mpr c25
              have c25b1 : ((IntKind.u64.wrap ((IntKind.u64.wrap ((Go.bits .and .u64 (ji11) 1) + (Go.bits .and .u64 (ji13) 1))) + (Go.bits .and .u64 (ji15) 1))) != (IntKind.u64.wrap ((Go.bits .and .u64 (ji22) 1) + (IntKind.u64.wrap (2 * (Go.bits .and .u64 (ji24) 1)))))) = false := bne_eq_false_iff_eq.mpr c25
              clear c25
              have H' := Aside0.mk H
              clear H
              go_wp2
              go_roundg k1
              case measure => have := HK1.out; omega
              case rel => exact ⟨(wrap64 (x12_1 + 1)), (by zs), H', ⟨by have := HK1.out; omega⟩, ⟨by zh⟩⟩
            · rw [if_neg c25] at H
              have c25b0 : ((IntKind.u64.wrap ((IntKind.u64.wrap ((Go.bits .and .u64 (ji11) 1) + (Go.bits .and .u64 (ji13) 1))) + (Go.bits .and .u64 (ji15) 1))) == (IntKind.u64.wrap ((Go.bits .and .u64 (ji22) 1) + (IntKind.u64.wrap (2 * (Go.bits .and .u64 (ji24) 1)))))) = false := beq_eq_false_iff_ne.mpr c25
              have c25b1 : ((IntKind.u64.wrap ((IntKind.u64.wrap ((Go.bits .and .u64 (ji11) 1) + (Go.bits .and .u64 (ji13) 1))) + (Go.bits .and .u64 (ji15) 1))) != (IntKind.u64.wrap ((Go.bits .and .u64 (ji22) 1) + (IntKind.u64.wrap (2 * (Go.bits .and .u64 (ji24) 1)))))) = true := bne_iff_ne.mpr c25
              obtain rfl := Option.some.inj H
              go_wp2
              go_ret
              exact ⟨by first | rfl | (simp [errW_none, errW_some] <;> rfl) | (simp only [← hji9, ← hji11, ← hji13, ← hji15, ← hji17, ← hji19, ← hji22, ← hji24]; first | rfl | (simp [errW_none, errW_some] <;> rfl)) | (simp [*, errW_none, errW_some] <;> rfl), by zh⟩
          · rw [if_neg c20] at H
            have c20b0 : ((IntKind.u64.wrap ((Go.bits .and .u64 (ji11) 1) + (Go.bits .and .u64 (ji13) 1))) == (IntKind.u64.wrap ((Go.bits .and .u64 (ji17) 1) + (IntKind.u64.wrap (2 * (Go.bits .and .u64 (ji19) 1)))))) = false := beq_eq_false_iff_ne.mpr c20
            have c20b1 : ((IntKind.u64.wrap ((Go.bits .and .u64 (ji11) 1) + (Go.bits .and .u64 (ji13) 1))) != (IntKind.u64.wrap ((Go.bits .and .u64 (ji17) 1) + (IntKind.u64.wrap (2 * (Go.bits .and .u64 (ji19) 1)))))) = true := bne_iff_ne.mpr c20
            obtain rfl := Option.some.inj H
            go_wp2
            go_ret
            exact ⟨by first | rfl | (simp [errW_none, errW_some] <;> rfl) | (simp only [← hji9, ← hji11, ← hji13, ← hji15, ← hji17, ← hji19]; first | rfl | (simp [errW_none, errW_some] <;> rfl)) | (simp [*, errW_none, errW_some] <;> rfl), by zh⟩
        · rw [if_neg c10] at H
          exact absurd H (by simp)
      · rw [if_neg c8] at H
        have c8b0 : decide (x12_1 < 64) = false := decide_eq_false c8
        clear c8
        obtain rfl := Option.some.inj H
        go_wp2
        go_ret
        exact ⟨by first | rfl | (simp [errW_none, errW_some] <;> rfl) | (simp [*, errW_none, errW_some] <;> rfl), by zh⟩

/-- THE ONE PURE STATEMENT of vivariumlaw02_WordsPlaces: yours. -/
def vivariumlaw02_WordsPlaces.Pure : Prop := ∀ (a0 : Int) (a1 : Int) (a2 : Int), (Lit.int .u64 a0).wf = true → (Lit.int .u64 a1).wf = true → (Lit.int .u64 a2).wf = true → ∃ k, vivariumlaw02_WordsPlaces.f k a0 a1 a2 = some true
theorem vivariumlaw02_WordsPlaces.walk (P : vivariumlaw02_WordsPlaces.Pure) (a0 : Int) (a1 : Int) (a2 : Int) (w : World) (w0 : (Lit.int .u64 a0).wf = true) (w1 : (Lit.int .u64 a1).wf = true) (w2 : (Lit.int .u64 a2).wf = true) :
    Calls Try.prog 4 #[.int .u64 a0, .int .u64 a1, .int .u64 a2] w fun e w' => e = .returned (.bool true) ∧ Below w.heap.size w w' := by
  obtain ⟨k, h⟩ := P a0 a1 a2 w0 w1 w2
  refine (vivariumlaw02_WordsPlaces.calls k a0 a1 a2 true w h).mono ?_
  rintro e w' ⟨rfl, hd⟩
  exact ⟨rfl, hd⟩

-- NOT PRINTED: function 5 (vivariumlaw02_WordsNames)

-- NOT PRINTED: function 11 (vivariumlaw02_WordsAlgebra)

end Go.Proofs.Ytlghmadoogblcaa.PW
