-- Printed out of the translation by the kit print (pr.sh). Not trusted: checked by Lean.
import Derived.Test.YtmcidodpnhkdfaaPFx0
import Derived.Test.YtmcidodpnhkdfaaPFx3
namespace Go.Proofs.Ytmcidodpnhkdfaa.PF
open Go.RowKit Go.Proofs.YtmcidodpnhkdfaaW.PrintWords Go.Proofs.YtmcidodpnhkdfaaW.PrintLast Go.Proofs.YtmcidodpnhkdfaaW.PrintMore
attribute [local go_sem] max2_int min2_int max_two min_two max_three min_three max_four min_four   -- for this text's walks alone
set_option linter.unusedVariables false
set_option linter.unusedSimpArgs false

/-! ### vivariumref04_shift: function 33 -/
mutual
def vivariumref04_shift.l0 : Nat → ByteArray → Int → List (S66) → Int → Int → Int → Int → Option (Int × Bool)
  | 0, _, _, _, _, _, _, _ => none
  | k + 1, x0, x1, x2, x3, x4, x12, x13 => if x13 < (x2.length : Int) then (if 0 ≤ x13 then (if ((rd_T66 x2 x13).f3) < 0 then (vivariumref04_shift.l0 k x0 x1 x2 x3 x4 x12 (wrap64 (x13 + 1))) else (if 0 ≤ ((rd_T66 x2 x13).f4) then (if ((rd_T66 x2 x13).f4) ≤ ((rd_T66 x2 x13).f5) then (if ((rd_T66 x2 x13).f5) ≤ (x0.size : Int) then ((vivariumref04_worth.f k (x0.extract (((rd_T66 x2 x13).f4) : Int).toNat (((rd_T66 x2 x13).f5) : Int).toNat)).bind fun t136 => (if 0 ≤ ((rd_T66 x2 x13).f0) then (if ((rd_T66 x2 x13).f0) ≤ ((rd_T66 x2 x13).f1) then (if ((rd_T66 x2 x13).f1) ≤ (x0.size : Int) then ((vivariumref04_worth.f k (x0.extract (((rd_T66 x2 x13).f0) : Int).toNat (((rd_T66 x2 x13).f1) : Int).toNat)).bind fun t137 => (if x1 = 2 then (if x1 = 3 then (if ((rd_T66 x2 x13).f2) < 0 then (vivariumref04_shift.j1 k x0 x1 x2 x3 x4 (wrap64 (x12 + 1)) x13 t136 true ((rd_T66 x2 x13).f0) ((rd_T66 x2 x13).f1) ((rd_T66 x2 x13).f2) ((rd_T66 x2 x13).f3) ((rd_T66 x2 x13).f4) ((rd_T66 x2 x13).f5)) else (if t136 ≥ t137 then (vivariumref04_shift.j1 k x0 x1 x2 x3 x4 (wrap64 (x12 + 1)) x13 t136 true ((rd_T66 x2 x13).f0) ((rd_T66 x2 x13).f1) ((rd_T66 x2 x13).f2) ((rd_T66 x2 x13).f3) ((rd_T66 x2 x13).f4) ((rd_T66 x2 x13).f5)) else (vivariumref04_shift.j1 k x0 x1 x2 x3 x4 (wrap64 (x12 + 1)) x13 t136 ((wrap64 (x12 + 1)) == 2) ((rd_T66 x2 x13).f0) ((rd_T66 x2 x13).f1) ((rd_T66 x2 x13).f2) ((rd_T66 x2 x13).f3) ((rd_T66 x2 x13).f4) ((rd_T66 x2 x13).f5)))) else (if t136 ≥ t137 then (vivariumref04_shift.j1 k x0 x1 x2 x3 x4 (wrap64 (x12 + 1)) x13 t136 true ((rd_T66 x2 x13).f0) ((rd_T66 x2 x13).f1) ((rd_T66 x2 x13).f2) ((rd_T66 x2 x13).f3) ((rd_T66 x2 x13).f4) ((rd_T66 x2 x13).f5)) else (vivariumref04_shift.j1 k x0 x1 x2 x3 x4 (wrap64 (x12 + 1)) x13 t136 ((wrap64 (x12 + 1)) == 2) ((rd_T66 x2 x13).f0) ((rd_T66 x2 x13).f1) ((rd_T66 x2 x13).f2) ((rd_T66 x2 x13).f3) ((rd_T66 x2 x13).f4) ((rd_T66 x2 x13).f5)))) else (if x1 = 3 then (if ((rd_T66 x2 x13).f2) < 0 then (vivariumref04_shift.j1 k x0 x1 x2 x3 x4 (wrap64 (x12 + 1)) x13 t136 true ((rd_T66 x2 x13).f0) ((rd_T66 x2 x13).f1) ((rd_T66 x2 x13).f2) ((rd_T66 x2 x13).f3) ((rd_T66 x2 x13).f4) ((rd_T66 x2 x13).f5)) else (if t136 ≥ t137 then (vivariumref04_shift.j1 k x0 x1 x2 x3 x4 (wrap64 (x12 + 1)) x13 t136 true ((rd_T66 x2 x13).f0) ((rd_T66 x2 x13).f1) ((rd_T66 x2 x13).f2) ((rd_T66 x2 x13).f3) ((rd_T66 x2 x13).f4) ((rd_T66 x2 x13).f5)) else (vivariumref04_shift.j1 k x0 x1 x2 x3 x4 (wrap64 (x12 + 1)) x13 t136 ((wrap64 (x12 + 1)) == 2) ((rd_T66 x2 x13).f0) ((rd_T66 x2 x13).f1) ((rd_T66 x2 x13).f2) ((rd_T66 x2 x13).f3) ((rd_T66 x2 x13).f4) ((rd_T66 x2 x13).f5)))) else (vivariumref04_shift.j1 k x0 x1 x2 x3 x4 (wrap64 (x12 + 1)) x13 t136 true ((rd_T66 x2 x13).f0) ((rd_T66 x2 x13).f1) ((rd_T66 x2 x13).f2) ((rd_T66 x2 x13).f3) ((rd_T66 x2 x13).f4) ((rd_T66 x2 x13).f5))))) else (none)) else (none)) else (none))) else (none)) else (none)) else (none))) else (none)) else (some (0, false))
def vivariumref04_shift.j1 : Nat → ByteArray → Int → List (S66) → Int → Int → Int → Int → Int → Bool → Int → Int → Int → Int → Int → Int → Option (Int × Bool)
  | 0, _, _, _, _, _, _, _, _, _, _, _, _, _, _, _ => none
  | k + 1, x0, x1, x2, x3, x4, x12, x13, x15, x69, x136000, x136001, x136002, x136003, x136004, x136005 => if x69 = true then (some (x136003, true)) else (if x1 = 2 then (if x15 = 0 then (some (x136003, true)) else (if x3 = 0 then (some (x136003, true)) else (if x4 = 0 then (some (x136003, true)) else (vivariumref04_shift.l0 k x0 x1 x2 x3 x4 x12 (wrap64 (x13 + 1)))))) else (vivariumref04_shift.l0 k x0 x1 x2 x3 x4 x12 (wrap64 (x13 + 1))))
end
def vivariumref04_shift.f (k : Nat) (a0 : ByteArray) (a1 : Int) (l2 : List (S66)) (a3 : Int) (a4 : Int) : Option (Int × Bool) := vivariumref04_shift.l0 k a0 a1 l2 a3 a4 0 0
theorem vivariumref04_shift.mono_l : ∀ k, (∀ y0 y1 y2 y3 y4 y5 y6, LeO (vivariumref04_shift.l0 k y0 y1 y2 y3 y4 y5 y6) (vivariumref04_shift.l0 (k + 1) y0 y1 y2 y3 y4 y5 y6)) ∧ (∀ y0 y1 y2 y3 y4 y5 y6 y7 y8 y9 y10 y11 y12 y13 y14, LeO (vivariumref04_shift.j1 k y0 y1 y2 y3 y4 y5 y6 y7 y8 y9 y10 y11 y12 y13 y14) (vivariumref04_shift.j1 (k + 1) y0 y1 y2 y3 y4 y5 y6 y7 y8 y9 y10 y11 y12 y13 y14))
  | 0 => ⟨fun _ _ _ _ _ _ _ r h => by simp [vivariumref04_shift.l0] at h, fun _ _ _ _ _ _ _ _ _ _ _ _ _ _ _ r h => by simp [vivariumref04_shift.j1] at h⟩
  | k + 1 => by
    obtain ⟨ih0, ih1⟩ := vivariumref04_shift.mono_l k
    refine ⟨?_, ?_⟩
    · intro y0 y1 y2 y3 y4 y5 y6
      unfold vivariumref04_shift.l0
      repeat' first
      | (with_reducible exact ih0 _ _ _ _ _ _ _)
      | (with_reducible exact ih1 _ _ _ _ _ _ _ _ _ _ _ _ _ _ _)
      | (with_reducible exact vivariumref04_worth.mono _ _)
      | (with_reducible exact LeO.refl _)
      | (with_reducible exact LeO.none _)
      | (with_reducible refine LeO.ite ?_ ?_)
      | (with_reducible refine LeO.bind ?_ (fun _ => ?_))
      | exact ih0 _ _ _ _ _ _ _
      | exact ih1 _ _ _ _ _ _ _ _ _ _ _ _ _ _ _
      | exact vivariumref04_worth.mono _ _
      | exact LeO.none _
      | refine LeO.ite ?_ ?_
      | refine LeO.bind ?_ (fun _ => ?_)
    · intro y0 y1 y2 y3 y4 y5 y6 y7 y8 y9 y10 y11 y12 y13 y14
      unfold vivariumref04_shift.j1
      repeat' first
      | (with_reducible exact ih0 _ _ _ _ _ _ _)
      | (with_reducible exact ih1 _ _ _ _ _ _ _ _ _ _ _ _ _ _ _)
      | (with_reducible exact vivariumref04_worth.mono _ _)
      | (with_reducible exact LeO.refl _)
      | (with_reducible exact LeO.none _)
      | (with_reducible refine LeO.ite ?_ ?_)
      | (with_reducible refine LeO.bind ?_ (fun _ => ?_))
      | exact ih0 _ _ _ _ _ _ _
      | exact ih1 _ _ _ _ _ _ _ _ _ _ _ _ _ _ _
      | exact vivariumref04_worth.mono _ _
      | exact LeO.none _
      | refine LeO.ite ?_ ?_
      | refine LeO.bind ?_ (fun _ => ?_)
theorem vivariumref04_shift.mono : ∀ a0 a1 a2 a3 a4 k, LeO (vivariumref04_shift.f k a0 a1 a2 a3 a4) (vivariumref04_shift.f (k + 1) a0 a1 a2 a3 a4) := by
  intro a0 a1 a2 a3 a4 k
  obtain ⟨ih0, ih1⟩ := vivariumref04_shift.mono_l k
  unfold vivariumref04_shift.f
  repeat' first
      | (with_reducible exact ih0 _ _ _ _ _ _ _)
      | (with_reducible exact ih1 _ _ _ _ _ _ _ _ _ _ _ _ _ _ _)
      | (with_reducible exact vivariumref04_worth.mono _ _)
      | (with_reducible exact LeO.refl _)
      | (with_reducible exact LeO.none _)
      | (with_reducible refine LeO.ite ?_ ?_)
      | (with_reducible refine LeO.bind ?_ (fun _ => ?_))
      | exact ih0 _ _ _ _ _ _ _
      | exact ih1 _ _ _ _ _ _ _ _ _ _ _ _ _ _ _
      | exact vivariumref04_worth.mono _ _
      | exact LeO.none _
      | refine LeO.ite ?_ ?_
      | refine LeO.bind ?_ (fun _ => ?_)
set_option maxHeartbeats 8000000 in
set_option maxRecDepth 100000 in
theorem vivariumref04_shift.calls (k : Nat) (a0 : ByteArray) (a1 : Int) (A2 : Option Addr) (c2 : Nat) (l2 : List (S66)) (a3 : Int) (a4 : Int) (r1 : Int) (r2 : Bool) (w : World) (hr2 : Kd.C k66 w A2 l2.length l2) (hc2 : l2.length ≤ c2) (h : vivariumref04_shift.f k a0 a1 l2 a3 a4 = some (r1, r2)) :
    Calls Try.prog 33 #[.string a0, .int .u8 a1, .slice A2 l2.length c2, .int .i64 a3, .int .i64 a4] w fun e w' => e = .returned (.tuple #[.int .i64 r1, .bool r2]) ∧ Below w.heap.size w w' := by
  have hu66 := Try.underlying66
  have HR2 := Aside0.mk hr2
  have HC2 := Aside0.mk hc2
  clear hr2 hc2
  have HB := Aside0.mk (Below.refl w.heap.size w)
  have H : (vivariumref04_shift.l0 k a0 a1 l2 a3 a4 0 0) = some (r1, r2) := h
  clear h
  have H' := Aside0.mk H
  clear H
  go_enter Try.func33, Try.ntmps33
  go_wp2
  go_loopg [12, 13] k (fun kq v12 v13 w' => ∃ (x12_1 : Int) (x13_1 : Int), v12 = .int .i64 x12_1 ∧ v13 = .int .i64 x13_1 ∧ Aside0 (vivariumref04_shift.l0 kq a0 a1 l2 a3 a4 x12_1 x13_1 = some (r1, r2)) ∧ Aside0 (kq ≤ k) ∧ Aside0 (Below w.heap.size w w'))
  case atStart => exact ⟨(0), (0), (by first | rfl | (simp; done) | (simp [*]; done) | (simp [wrap64]; done)), (by first | rfl | (simp; done) | (simp [*]; done) | (simp [wrap64]; done)), H', ⟨Nat.le_refl _⟩, ⟨by repeat (first | (with_reducible first | exact HB.out | apply below_alloc | apply pw_below_drewN | apply below_drew1) | exact HB.out)⟩⟩
  case round =>
    clear H'
    (try clear c2); (try clear p2); (try clear c3)
    obtain ⟨x12_1, x13_1, rfl, rfl, HA, HK1, HB⟩ := hrel
    cases gk with
    | zero => exact absurd HA.out (by simp [vivariumref04_shift.l0])
    | succ k1 =>
      have H := HA.out
      clear HA
      simp only [vivariumref04_shift.l0] at H
      by_cases c6 : x13_1 < (l2.length : Int)
      · rw [if_pos c6] at H
        have c6b0 : decide (x13_1 < (l2.length : Int)) = true := decide_eq_true c6
        clear c6
        by_cases c7 : 0 ≤ x13_1
        · rw [if_pos c7] at H
          have c7b0 : decide (0 ≤ x13_1) = true := decide_eq_true c7
          clear c7
          by_cases c8 : ((rd_T66 l2 x13_1).f3) < 0
          · rw [if_pos c8] at H
            have c8b0 : decide (((rd_T66 l2 x13_1).f3) < 0) = true := decide_eq_true c8
            clear c8
            have H' := Aside0.mk H
            clear H
            have p134 : 0 ≤ (x13_1 : Int) := of_decide_eq_true (by first | (with_reducible assumption) | assumption)
            have q134 : x13_1 < (l2.length : Int) := of_decide_eq_true (by first | (with_reducible assumption) | assumption)
            obtain ⟨ad134, e134, hx134_0, hx134_1, hx134_2, hx134_3, hx134_4, hx134_5⟩ := at_T66 HR2.out x13_1 p134 q134
            cases e134
            replace hx134_0 := (HB.out.cell (World.block_lt_of_cell? w _ hx134_0)).trans hx134_0
            replace hx134_1 := (HB.out.cell (World.block_lt_of_cell? w _ hx134_1)).trans hx134_1
            replace hx134_2 := (HB.out.cell (World.block_lt_of_cell? w _ hx134_2)).trans hx134_2
            replace hx134_3 := (HB.out.cell (World.block_lt_of_cell? w _ hx134_3)).trans hx134_3
            replace hx134_4 := (HB.out.cell (World.block_lt_of_cell? w _ hx134_4)).trans hx134_4
            replace hx134_5 := (HB.out.cell (World.block_lt_of_cell? w _ hx134_5)).trans hx134_5
            replace p134 := eq_true p134
            replace q134 := eq_true q134
            go_wp2_with (first | ((with_reducible refine gate_dst (N := 14) rfl ?_); refine box_event ?hg (N := 14) ?hd (cs := #[.int .i64 0, .int .i64 0, .int .i64 0, .int .i64 0, .int .i64 0, .int .i64 0]) (t := 66) ?hr ?_; (case hd => rfl); (case hg => rfl); (case hr => first | (go_simp; done) | (go_simp; rfl)); intro gb135 hg w9 hbox hb; have n0_ := Aside0.mk (below_step (by repeat (first | (with_reducible first | exact HB.out | apply below_alloc | apply pw_below_drewN | apply below_drew1) | exact HB.out)) hb); have n1_ := Aside0.mk (hbox); have n2_ := Aside0.mk ((by rw [hg]; exact (below_size (by repeat (first | (with_reducible first | exact HB.out | apply below_alloc | apply pw_below_drewN | apply below_drew1) | exact HB.out))) : w.heap.size ≤ gb135)); have n3_ := Aside0.mk ((by rw [hg]; exact (below_size (by repeat (first | (with_reducible first | exact HB.out | apply below_alloc | apply pw_below_drewN | apply below_drew1) | exact HB.out))) : w.heap.size ≤ gb135)); clear HB; have HB := n0_; have BK135 := n1_; have GW135 := n2_; have GE135 := n3_; clear n0_ n1_ n2_ n3_; clear hb hbox hg; have hcz10_0 : w9.cell? ⟨gb135, 0, none⟩ = some (.int .i64 0) := (blk_cell BK135.out 0).trans rfl; have hcz10_1 : w9.cell? ⟨gb135, 1, none⟩ = some (.int .i64 0) := (blk_cell BK135.out 1).trans rfl; have hcz10_2 : w9.cell? ⟨gb135, 2, none⟩ = some (.int .i64 0) := (blk_cell BK135.out 2).trans rfl; have hcz10_3 : w9.cell? ⟨gb135, 3, none⟩ = some (.int .i64 0) := (blk_cell BK135.out 3).trans rfl; have hcz10_4 : w9.cell? ⟨gb135, 4, none⟩ = some (.int .i64 0) := (blk_cell BK135.out 4).trans rfl; have hcz10_5 : w9.cell? ⟨gb135, 5, none⟩ = some (.int .i64 0) := (blk_cell BK135.out 5).trans rfl; have hfz10_0 := blk_frozen BK135.out 0; have hfz10_1 := blk_frozen BK135.out 1; have hfz10_2 := blk_frozen BK135.out 2; have hfz10_3 := blk_frozen BK135.out 3; have hfz10_4 := blk_frozen BK135.out 4; have hfz10_5 := blk_frozen BK135.out 5))
            go_roundg k1
            case measure => have := HK1.out; omega
            case rel => exact ⟨(x12_1), (wrap64 (x13_1 + 1)), (by first | rfl | (simp; done) | (simp [*]; done) | (simp [wrap64]; done)), (by first | rfl | (simp; done) | (simp [*]; done) | (simp [wrap64]; done)), H', ⟨by have := HK1.out; omega⟩, ⟨by repeat (first | (with_reducible first | exact HB.out | apply below_alloc | apply pw_below_drewN | apply below_drew1 | refine below_set ?_ GE135.out) | exact HB.out)⟩⟩
          · rw [if_neg c8] at H
            have c8b0 : decide (((rd_T66 l2 x13_1).f3) < 0) = false := decide_eq_false c8
            clear c8
            by_cases c11 : 0 ≤ ((rd_T66 l2 x13_1).f4)
            · rw [if_pos c11] at H
              have c11b0 := eq_true c11
              have c11b1 : decide (0 ≤ ((rd_T66 l2 x13_1).f4)) = true := decide_eq_true c11
              clear c11
              by_cases c12 : ((rd_T66 l2 x13_1).f4) ≤ ((rd_T66 l2 x13_1).f5)
              · rw [if_pos c12] at H
                have c12b0 := eq_true c12
                have c12b1 : decide (((rd_T66 l2 x13_1).f4) ≤ ((rd_T66 l2 x13_1).f5)) = true := decide_eq_true c12
                clear c12
                by_cases c13 : ((rd_T66 l2 x13_1).f5) ≤ (a0.size : Int)
                · rw [if_pos c13] at H
                  have c13b0 := eq_true c13
                  have c13b1 : decide (((rd_T66 l2 x13_1).f5) ≤ (a0.size : Int)) = true := decide_eq_true c13
                  clear c13
                  replace H := Option.bind_eq_some_iff.mp H
                  obtain ⟨t136, A140, H⟩ := H
                  replace H : (if 0 ≤ ((rd_T66 l2 x13_1).f0) then (if ((rd_T66 l2 x13_1).f0) ≤ ((rd_T66 l2 x13_1).f1) then (if ((rd_T66 l2 x13_1).f1) ≤ (a0.size : Int) then ((vivariumref04_worth.f k1 (a0.extract (((rd_T66 l2 x13_1).f0) : Int).toNat (((rd_T66 l2 x13_1).f1) : Int).toNat)).bind fun t137 => (if a1 = 2 then (if a1 = 3 then (if ((rd_T66 l2 x13_1).f2) < 0 then (vivariumref04_shift.j1 k1 a0 a1 l2 a3 a4 (wrap64 (x12_1 + 1)) x13_1 t136 true ((rd_T66 l2 x13_1).f0) ((rd_T66 l2 x13_1).f1) ((rd_T66 l2 x13_1).f2) ((rd_T66 l2 x13_1).f3) ((rd_T66 l2 x13_1).f4) ((rd_T66 l2 x13_1).f5)) else (if t136 ≥ t137 then (vivariumref04_shift.j1 k1 a0 a1 l2 a3 a4 (wrap64 (x12_1 + 1)) x13_1 t136 true ((rd_T66 l2 x13_1).f0) ((rd_T66 l2 x13_1).f1) ((rd_T66 l2 x13_1).f2) ((rd_T66 l2 x13_1).f3) ((rd_T66 l2 x13_1).f4) ((rd_T66 l2 x13_1).f5)) else (vivariumref04_shift.j1 k1 a0 a1 l2 a3 a4 (wrap64 (x12_1 + 1)) x13_1 t136 ((wrap64 (x12_1 + 1)) == 2) ((rd_T66 l2 x13_1).f0) ((rd_T66 l2 x13_1).f1) ((rd_T66 l2 x13_1).f2) ((rd_T66 l2 x13_1).f3) ((rd_T66 l2 x13_1).f4) ((rd_T66 l2 x13_1).f5)))) else (if t136 ≥ t137 then (vivariumref04_shift.j1 k1 a0 a1 l2 a3 a4 (wrap64 (x12_1 + 1)) x13_1 t136 true ((rd_T66 l2 x13_1).f0) ((rd_T66 l2 x13_1).f1) ((rd_T66 l2 x13_1).f2) ((rd_T66 l2 x13_1).f3) ((rd_T66 l2 x13_1).f4) ((rd_T66 l2 x13_1).f5)) else (vivariumref04_shift.j1 k1 a0 a1 l2 a3 a4 (wrap64 (x12_1 + 1)) x13_1 t136 ((wrap64 (x12_1 + 1)) == 2) ((rd_T66 l2 x13_1).f0) ((rd_T66 l2 x13_1).f1) ((rd_T66 l2 x13_1).f2) ((rd_T66 l2 x13_1).f3) ((rd_T66 l2 x13_1).f4) ((rd_T66 l2 x13_1).f5)))) else (if a1 = 3 then (if ((rd_T66 l2 x13_1).f2) < 0 then (vivariumref04_shift.j1 k1 a0 a1 l2 a3 a4 (wrap64 (x12_1 + 1)) x13_1 t136 true ((rd_T66 l2 x13_1).f0) ((rd_T66 l2 x13_1).f1) ((rd_T66 l2 x13_1).f2) ((rd_T66 l2 x13_1).f3) ((rd_T66 l2 x13_1).f4) ((rd_T66 l2 x13_1).f5)) else (if t136 ≥ t137 then (vivariumref04_shift.j1 k1 a0 a1 l2 a3 a4 (wrap64 (x12_1 + 1)) x13_1 t136 true ((rd_T66 l2 x13_1).f0) ((rd_T66 l2 x13_1).f1) ((rd_T66 l2 x13_1).f2) ((rd_T66 l2 x13_1).f3) ((rd_T66 l2 x13_1).f4) ((rd_T66 l2 x13_1).f5)) else (vivariumref04_shift.j1 k1 a0 a1 l2 a3 a4 (wrap64 (x12_1 + 1)) x13_1 t136 ((wrap64 (x12_1 + 1)) == 2) ((rd_T66 l2 x13_1).f0) ((rd_T66 l2 x13_1).f1) ((rd_T66 l2 x13_1).f2) ((rd_T66 l2 x13_1).f3) ((rd_T66 l2 x13_1).f4) ((rd_T66 l2 x13_1).f5)))) else (vivariumref04_shift.j1 k1 a0 a1 l2 a3 a4 (wrap64 (x12_1 + 1)) x13_1 t136 true ((rd_T66 l2 x13_1).f0) ((rd_T66 l2 x13_1).f1) ((rd_T66 l2 x13_1).f2) ((rd_T66 l2 x13_1).f3) ((rd_T66 l2 x13_1).f4) ((rd_T66 l2 x13_1).f5))))) else (none)) else (none)) else (none)) = some (r1, r2) := H
                  have A14 := Aside0.mk A140
                  clear A140
                  by_cases c15 : 0 ≤ ((rd_T66 l2 x13_1).f0)
                  · rw [if_pos c15] at H
                    have c15b0 := eq_true c15
                    have c15b1 : decide (0 ≤ ((rd_T66 l2 x13_1).f0)) = true := decide_eq_true c15
                    clear c15
                    by_cases c16 : ((rd_T66 l2 x13_1).f0) ≤ ((rd_T66 l2 x13_1).f1)
                    · rw [if_pos c16] at H
                      have c16b0 := eq_true c16
                      have c16b1 : decide (((rd_T66 l2 x13_1).f0) ≤ ((rd_T66 l2 x13_1).f1)) = true := decide_eq_true c16
                      clear c16
                      by_cases c17 : ((rd_T66 l2 x13_1).f1) ≤ (a0.size : Int)
                      · rw [if_pos c17] at H
                        have c17b0 := eq_true c17
                        have c17b1 : decide (((rd_T66 l2 x13_1).f1) ≤ (a0.size : Int)) = true := decide_eq_true c17
                        clear c17
                        replace H := Option.bind_eq_some_iff.mp H
                        obtain ⟨t137, A180, H⟩ := H
                        replace H : (if a1 = 2 then (if a1 = 3 then (if ((rd_T66 l2 x13_1).f2) < 0 then (vivariumref04_shift.j1 k1 a0 a1 l2 a3 a4 (wrap64 (x12_1 + 1)) x13_1 t136 true ((rd_T66 l2 x13_1).f0) ((rd_T66 l2 x13_1).f1) ((rd_T66 l2 x13_1).f2) ((rd_T66 l2 x13_1).f3) ((rd_T66 l2 x13_1).f4) ((rd_T66 l2 x13_1).f5)) else (if t136 ≥ t137 then (vivariumref04_shift.j1 k1 a0 a1 l2 a3 a4 (wrap64 (x12_1 + 1)) x13_1 t136 true ((rd_T66 l2 x13_1).f0) ((rd_T66 l2 x13_1).f1) ((rd_T66 l2 x13_1).f2) ((rd_T66 l2 x13_1).f3) ((rd_T66 l2 x13_1).f4) ((rd_T66 l2 x13_1).f5)) else (vivariumref04_shift.j1 k1 a0 a1 l2 a3 a4 (wrap64 (x12_1 + 1)) x13_1 t136 ((wrap64 (x12_1 + 1)) == 2) ((rd_T66 l2 x13_1).f0) ((rd_T66 l2 x13_1).f1) ((rd_T66 l2 x13_1).f2) ((rd_T66 l2 x13_1).f3) ((rd_T66 l2 x13_1).f4) ((rd_T66 l2 x13_1).f5)))) else (if t136 ≥ t137 then (vivariumref04_shift.j1 k1 a0 a1 l2 a3 a4 (wrap64 (x12_1 + 1)) x13_1 t136 true ((rd_T66 l2 x13_1).f0) ((rd_T66 l2 x13_1).f1) ((rd_T66 l2 x13_1).f2) ((rd_T66 l2 x13_1).f3) ((rd_T66 l2 x13_1).f4) ((rd_T66 l2 x13_1).f5)) else (vivariumref04_shift.j1 k1 a0 a1 l2 a3 a4 (wrap64 (x12_1 + 1)) x13_1 t136 ((wrap64 (x12_1 + 1)) == 2) ((rd_T66 l2 x13_1).f0) ((rd_T66 l2 x13_1).f1) ((rd_T66 l2 x13_1).f2) ((rd_T66 l2 x13_1).f3) ((rd_T66 l2 x13_1).f4) ((rd_T66 l2 x13_1).f5)))) else (if a1 = 3 then (if ((rd_T66 l2 x13_1).f2) < 0 then (vivariumref04_shift.j1 k1 a0 a1 l2 a3 a4 (wrap64 (x12_1 + 1)) x13_1 t136 true ((rd_T66 l2 x13_1).f0) ((rd_T66 l2 x13_1).f1) ((rd_T66 l2 x13_1).f2) ((rd_T66 l2 x13_1).f3) ((rd_T66 l2 x13_1).f4) ((rd_T66 l2 x13_1).f5)) else (if t136 ≥ t137 then (vivariumref04_shift.j1 k1 a0 a1 l2 a3 a4 (wrap64 (x12_1 + 1)) x13_1 t136 true ((rd_T66 l2 x13_1).f0) ((rd_T66 l2 x13_1).f1) ((rd_T66 l2 x13_1).f2) ((rd_T66 l2 x13_1).f3) ((rd_T66 l2 x13_1).f4) ((rd_T66 l2 x13_1).f5)) else (vivariumref04_shift.j1 k1 a0 a1 l2 a3 a4 (wrap64 (x12_1 + 1)) x13_1 t136 ((wrap64 (x12_1 + 1)) == 2) ((rd_T66 l2 x13_1).f0) ((rd_T66 l2 x13_1).f1) ((rd_T66 l2 x13_1).f2) ((rd_T66 l2 x13_1).f3) ((rd_T66 l2 x13_1).f4) ((rd_T66 l2 x13_1).f5)))) else (vivariumref04_shift.j1 k1 a0 a1 l2 a3 a4 (wrap64 (x12_1 + 1)) x13_1 t136 true ((rd_T66 l2 x13_1).f0) ((rd_T66 l2 x13_1).f1) ((rd_T66 l2 x13_1).f2) ((rd_T66 l2 x13_1).f3) ((rd_T66 l2 x13_1).f4) ((rd_T66 l2 x13_1).f5)))) = some (r1, r2) := H
                        have A18 := Aside0.mk A180
                        clear A180
                        have HC19 := Aside0.mk H
                        clear H
                        have p134 : 0 ≤ (x13_1 : Int) := of_decide_eq_true (by first | (with_reducible assumption) | assumption)
                        have q134 : x13_1 < (l2.length : Int) := of_decide_eq_true (by first | (with_reducible assumption) | assumption)
                        obtain ⟨ad134, e134, hx134_0, hx134_1, hx134_2, hx134_3, hx134_4, hx134_5⟩ := at_T66 HR2.out x13_1 p134 q134
                        cases e134
                        replace hx134_0 := (HB.out.cell (World.block_lt_of_cell? w _ hx134_0)).trans hx134_0
                        replace hx134_1 := (HB.out.cell (World.block_lt_of_cell? w _ hx134_1)).trans hx134_1
                        replace hx134_2 := (HB.out.cell (World.block_lt_of_cell? w _ hx134_2)).trans hx134_2
                        replace hx134_3 := (HB.out.cell (World.block_lt_of_cell? w _ hx134_3)).trans hx134_3
                        replace hx134_4 := (HB.out.cell (World.block_lt_of_cell? w _ hx134_4)).trans hx134_4
                        replace hx134_5 := (HB.out.cell (World.block_lt_of_cell? w _ hx134_5)).trans hx134_5
                        replace p134 := eq_true p134
                        replace q134 := eq_true q134
                        go_upto_region 10 with (first | ((with_reducible refine gate_dst (N := 14) rfl ?_); refine box_event ?hg (N := 14) ?hd (cs := #[.int .i64 0, .int .i64 0, .int .i64 0, .int .i64 0, .int .i64 0, .int .i64 0]) (t := 66) ?hr ?_; (case hd => rfl); (case hg => rfl); (case hr => first | (go_simp; done) | (go_simp; rfl)); intro gb135 hg w20 hbox hb; have n0_ := Aside0.mk (below_step (by repeat (first | (with_reducible first | exact HB.out | apply below_alloc | apply pw_below_drewN | apply below_drew1) | exact HB.out)) hb); have n1_ := Aside0.mk (hbox); have n2_ := Aside0.mk ((by rw [hg]; exact (below_size (by repeat (first | (with_reducible first | exact HB.out | apply below_alloc | apply pw_below_drewN | apply below_drew1) | exact HB.out))) : w.heap.size ≤ gb135)); have n3_ := Aside0.mk ((by rw [hg]; exact (below_size (by repeat (first | (with_reducible first | exact HB.out | apply below_alloc | apply pw_below_drewN | apply below_drew1) | exact HB.out))) : w.heap.size ≤ gb135)); clear HB; have HB := n0_; have BK135 := n1_; have GW135 := n2_; have GE135 := n3_; clear n0_ n1_ n2_ n3_; clear hb hbox hg; have hcz21_0 : w20.cell? ⟨gb135, 0, none⟩ = some (.int .i64 0) := (blk_cell BK135.out 0).trans rfl; have hcz21_1 : w20.cell? ⟨gb135, 1, none⟩ = some (.int .i64 0) := (blk_cell BK135.out 1).trans rfl; have hcz21_2 : w20.cell? ⟨gb135, 2, none⟩ = some (.int .i64 0) := (blk_cell BK135.out 2).trans rfl; have hcz21_3 : w20.cell? ⟨gb135, 3, none⟩ = some (.int .i64 0) := (blk_cell BK135.out 3).trans rfl; have hcz21_4 : w20.cell? ⟨gb135, 4, none⟩ = some (.int .i64 0) := (blk_cell BK135.out 4).trans rfl; have hcz21_5 : w20.cell? ⟨gb135, 5, none⟩ = some (.int .i64 0) := (blk_cell BK135.out 5).trans rfl; have hfz21_0 := blk_frozen BK135.out 0; have hfz21_1 := blk_frozen BK135.out 1; have hfz21_2 := blk_frozen BK135.out 2; have hfz21_3 := blk_frozen BK135.out 3; have hfz21_4 := blk_frozen BK135.out 4; have hfz21_5 := blk_frozen BK135.out 5) | ((with_reducible refine gate_callee (f := 31) rfl ?_); refine goesL_ (some 38) rfl rfl Try.func31 (by kernel_rfl) rfl #[.string (a0.extract (((rd_T66 l2 x13_1).f4) : Int).toNat (((rd_T66 l2 x13_1).f5) : Int).toNat)] rfl (by (try simp only [List.map_toArray, List.map_cons, List.map_nil]); first | done | rfl | (simp only [List.length_drop, List.length_take]; rfl)) ?_; (with_reducible refine (vivariumref04_worth.calls k1 (a0.extract (((rd_T66 l2 x13_1).f4) : Int).toNat (((rd_T66 l2 x13_1).f5) : Int).toNat) t136 _ A14.out).mono ?_); rintro e w' ⟨rfl, ⟨nd, rfl⟩⟩; refine ⟨_, rfl, ?_⟩) | ((with_reducible refine gate_callee (f := 31) rfl ?_); refine goesL_ (some 45) rfl rfl Try.func31 (by kernel_rfl) rfl #[.string (a0.extract (((rd_T66 l2 x13_1).f0) : Int).toNat (((rd_T66 l2 x13_1).f1) : Int).toNat)] rfl (by (try simp only [List.map_toArray, List.map_cons, List.map_nil]); first | done | rfl | (simp only [List.length_drop, List.length_take]; rfl)) ?_; (with_reducible refine (vivariumref04_worth.calls k1 (a0.extract (((rd_T66 l2 x13_1).f0) : Int).toNat (((rd_T66 l2 x13_1).f1) : Int).toNat) t137 _ A18.out).mono ?_); rintro e w' ⟨rfl, ⟨nd, rfl⟩⟩; refine ⟨_, rfl, ?_⟩))
                        (try simp only [Act.put, List.setIfInBounds_toArray, List.set_cons_zero, List.set_cons_succ])
                        go_cut [69] (fun v69 wc => ∃ (kq : Nat) (x69_18 : Bool), v69 = .bool x69_18 ∧ Aside0 (vivariumref04_shift.j1 kq a0 a1 l2 a3 a4 (wrap64 (x12_1 + 1)) x13_1 t136 x69_18 ((rd_T66 l2 x13_1).f0) ((rd_T66 l2 x13_1).f1) ((rd_T66 l2 x13_1).f2) ((rd_T66 l2 x13_1).f3) ((rd_T66 l2 x13_1).f4) ((rd_T66 l2 x13_1).f5) = some (r1, r2)) ∧ Aside0 (kq ≤ k1) ∧ Aside0 (wc.heap[gb135]? = some (.cells #[.int .i64 ((rd_T66 l2 x13_1).f0), .int .i64 ((rd_T66 l2 x13_1).f1), .int .i64 ((rd_T66 l2 x13_1).f2), .int .i64 ((rd_T66 l2 x13_1).f3), .int .i64 ((rd_T66 l2 x13_1).f4), .int .i64 ((rd_T66 l2 x13_1).f5)] 66 (0, 0))) ∧ Aside0 (Below w.heap.size w wc))
                        case first =>
                          have H := HC19.out
                          clear HC19
                          by_cases c22 : a1 = 2
                          · rw [if_pos c22] at H
                            have c22b0 : (a1 == 2) = true := beq_iff_eq.mpr c22
                            have c22b1 : (a1 != 2) = false := bne_eq_false_iff_eq.mpr c22
                            clear c22
                            (first | rw [c22b0] | (simp only [i64_w, i32_w]; rw [c22b0]) | skip)
                            by_cases c23 : a1 = 3
                            · rw [if_pos c23] at H
                              have c23b0 : (a1 == 3) = true := beq_iff_eq.mpr c23
                              have c23b1 : (a1 != 3) = false := bne_eq_false_iff_eq.mpr c23
                              clear c23
                              by_cases c24 : ((rd_T66 l2 x13_1).f2) < 0
                              · rw [if_pos c24] at H
                                have c24b0 : decide (((rd_T66 l2 x13_1).f2) < 0) = true := decide_eq_true c24
                                clear c24
                                have H' := Aside0.mk H
                                clear H
                                have hcz25_0 : w20.cell? ⟨gb135, 0, none⟩ = some (.int .i64 0) := (blk_cell BK135.out 0).trans rfl
                                have hcz25_1 : w20.cell? ⟨gb135, 1, none⟩ = some (.int .i64 0) := (blk_cell BK135.out 1).trans rfl
                                have hcz25_2 : w20.cell? ⟨gb135, 2, none⟩ = some (.int .i64 0) := (blk_cell BK135.out 2).trans rfl
                                have hcz25_3 : w20.cell? ⟨gb135, 3, none⟩ = some (.int .i64 0) := (blk_cell BK135.out 3).trans rfl
                                have hcz25_4 : w20.cell? ⟨gb135, 4, none⟩ = some (.int .i64 0) := (blk_cell BK135.out 4).trans rfl
                                have hcz25_5 : w20.cell? ⟨gb135, 5, none⟩ = some (.int .i64 0) := (blk_cell BK135.out 5).trans rfl
                                have hfz25_0 := blk_frozen BK135.out 0
                                have hfz25_1 := blk_frozen BK135.out 1
                                have hfz25_2 := blk_frozen BK135.out 2
                                have hfz25_3 := blk_frozen BK135.out 3
                                have hfz25_4 := blk_frozen BK135.out 4
                                have hfz25_5 := blk_frozen BK135.out 5
                                go_wp2
                                go_meet
                                case rel => exact ⟨_, (true), (by first | rfl | (simp; done) | (simp [*]; done) | (simp [wrap64]; done)), H', ⟨by have := HK1.out; first | omega | exact Nat.le_refl _⟩, ⟨by (with_reducible repeat (first | refine blk_drewN ?_ _ | refine blk_drew ?_ | refine blk_alloc ?_ _)); refine blk_put (cs := #[.int .i64 ((rd_T66 l2 x13_1).f0), .int .i64 ((rd_T66 l2 x13_1).f1), .int .i64 ((rd_T66 l2 x13_1).f2), .int .i64 ((rd_T66 l2 x13_1).f3), .int .i64 ((rd_T66 l2 x13_1).f4), .int .i64 0]) ?_ 5 _ rfl; (with_reducible repeat (first | refine blk_drewN ?_ _ | refine blk_drew ?_ | refine blk_alloc ?_ _)); refine blk_put (cs := #[.int .i64 ((rd_T66 l2 x13_1).f0), .int .i64 ((rd_T66 l2 x13_1).f1), .int .i64 ((rd_T66 l2 x13_1).f2), .int .i64 ((rd_T66 l2 x13_1).f3), .int .i64 0, .int .i64 0]) ?_ 4 _ rfl; (with_reducible repeat (first | refine blk_drewN ?_ _ | refine blk_drew ?_ | refine blk_alloc ?_ _)); refine blk_put (cs := #[.int .i64 ((rd_T66 l2 x13_1).f0), .int .i64 ((rd_T66 l2 x13_1).f1), .int .i64 ((rd_T66 l2 x13_1).f2), .int .i64 0, .int .i64 0, .int .i64 0]) ?_ 3 _ rfl; (with_reducible repeat (first | refine blk_drewN ?_ _ | refine blk_drew ?_ | refine blk_alloc ?_ _)); refine blk_put (cs := #[.int .i64 ((rd_T66 l2 x13_1).f0), .int .i64 ((rd_T66 l2 x13_1).f1), .int .i64 0, .int .i64 0, .int .i64 0, .int .i64 0]) ?_ 2 _ rfl; (with_reducible repeat (first | refine blk_drewN ?_ _ | refine blk_drew ?_ | refine blk_alloc ?_ _)); refine blk_put (cs := #[.int .i64 ((rd_T66 l2 x13_1).f0), .int .i64 0, .int .i64 0, .int .i64 0, .int .i64 0, .int .i64 0]) ?_ 1 _ rfl; (with_reducible repeat (first | refine blk_drewN ?_ _ | refine blk_drew ?_ | refine blk_alloc ?_ _)); refine blk_put (cs := #[.int .i64 0, .int .i64 0, .int .i64 0, .int .i64 0, .int .i64 0, .int .i64 0]) ?_ 0 _ rfl; (with_reducible repeat (first | refine blk_drewN ?_ _ | refine blk_drew ?_ | refine blk_alloc ?_ _)); exact BK135.out⟩, ⟨by repeat (first | (with_reducible first | exact HB.out | apply below_alloc | apply pw_below_drewN | apply below_drew1 | refine below_set ?_ GE135.out) | exact HB.out)⟩⟩
                              · rw [if_neg c24] at H
                                have c24b0 : decide (((rd_T66 l2 x13_1).f2) < 0) = false := decide_eq_false c24
                                clear c24
                                by_cases c26 : t136 ≥ t137
                                · rw [if_pos c26] at H
                                  have c26b0 : decide (t137 ≤ t136) = true := decide_eq_true c26
                                  clear c26
                                  have H' := Aside0.mk H
                                  clear H
                                  have hcz27_0 : w20.cell? ⟨gb135, 0, none⟩ = some (.int .i64 0) := (blk_cell BK135.out 0).trans rfl
                                  have hcz27_1 : w20.cell? ⟨gb135, 1, none⟩ = some (.int .i64 0) := (blk_cell BK135.out 1).trans rfl
                                  have hcz27_2 : w20.cell? ⟨gb135, 2, none⟩ = some (.int .i64 0) := (blk_cell BK135.out 2).trans rfl
                                  have hcz27_3 : w20.cell? ⟨gb135, 3, none⟩ = some (.int .i64 0) := (blk_cell BK135.out 3).trans rfl
                                  have hcz27_4 : w20.cell? ⟨gb135, 4, none⟩ = some (.int .i64 0) := (blk_cell BK135.out 4).trans rfl
                                  have hcz27_5 : w20.cell? ⟨gb135, 5, none⟩ = some (.int .i64 0) := (blk_cell BK135.out 5).trans rfl
                                  have hfz27_0 := blk_frozen BK135.out 0
                                  have hfz27_1 := blk_frozen BK135.out 1
                                  have hfz27_2 := blk_frozen BK135.out 2
                                  have hfz27_3 := blk_frozen BK135.out 3
                                  have hfz27_4 := blk_frozen BK135.out 4
                                  have hfz27_5 := blk_frozen BK135.out 5
                                  go_wp2
                                  go_meet
                                  case rel => exact ⟨_, (true), (by first | rfl | (simp; done) | (simp [*]; done) | (simp [wrap64]; done)), H', ⟨by have := HK1.out; first | omega | exact Nat.le_refl _⟩, ⟨by (with_reducible repeat (first | refine blk_drewN ?_ _ | refine blk_drew ?_ | refine blk_alloc ?_ _)); refine blk_put (cs := #[.int .i64 ((rd_T66 l2 x13_1).f0), .int .i64 ((rd_T66 l2 x13_1).f1), .int .i64 ((rd_T66 l2 x13_1).f2), .int .i64 ((rd_T66 l2 x13_1).f3), .int .i64 ((rd_T66 l2 x13_1).f4), .int .i64 0]) ?_ 5 _ rfl; (with_reducible repeat (first | refine blk_drewN ?_ _ | refine blk_drew ?_ | refine blk_alloc ?_ _)); refine blk_put (cs := #[.int .i64 ((rd_T66 l2 x13_1).f0), .int .i64 ((rd_T66 l2 x13_1).f1), .int .i64 ((rd_T66 l2 x13_1).f2), .int .i64 ((rd_T66 l2 x13_1).f3), .int .i64 0, .int .i64 0]) ?_ 4 _ rfl; (with_reducible repeat (first | refine blk_drewN ?_ _ | refine blk_drew ?_ | refine blk_alloc ?_ _)); refine blk_put (cs := #[.int .i64 ((rd_T66 l2 x13_1).f0), .int .i64 ((rd_T66 l2 x13_1).f1), .int .i64 ((rd_T66 l2 x13_1).f2), .int .i64 0, .int .i64 0, .int .i64 0]) ?_ 3 _ rfl; (with_reducible repeat (first | refine blk_drewN ?_ _ | refine blk_drew ?_ | refine blk_alloc ?_ _)); refine blk_put (cs := #[.int .i64 ((rd_T66 l2 x13_1).f0), .int .i64 ((rd_T66 l2 x13_1).f1), .int .i64 0, .int .i64 0, .int .i64 0, .int .i64 0]) ?_ 2 _ rfl; (with_reducible repeat (first | refine blk_drewN ?_ _ | refine blk_drew ?_ | refine blk_alloc ?_ _)); refine blk_put (cs := #[.int .i64 ((rd_T66 l2 x13_1).f0), .int .i64 0, .int .i64 0, .int .i64 0, .int .i64 0, .int .i64 0]) ?_ 1 _ rfl; (with_reducible repeat (first | refine blk_drewN ?_ _ | refine blk_drew ?_ | refine blk_alloc ?_ _)); refine blk_put (cs := #[.int .i64 0, .int .i64 0, .int .i64 0, .int .i64 0, .int .i64 0, .int .i64 0]) ?_ 0 _ rfl; (with_reducible repeat (first | refine blk_drewN ?_ _ | refine blk_drew ?_ | refine blk_alloc ?_ _)); exact BK135.out⟩, ⟨by repeat (first | (with_reducible first | exact HB.out | apply below_alloc | apply pw_below_drewN | apply below_drew1 | refine below_set ?_ GE135.out) | exact HB.out)⟩⟩
                                · rw [if_neg c26] at H
                                  have c26b0 : decide (t137 ≤ t136) = false := decide_eq_false c26
                                  clear c26
                                  have H' := Aside0.mk H
                                  clear H
                                  have hcz28_0 : w20.cell? ⟨gb135, 0, none⟩ = some (.int .i64 0) := (blk_cell BK135.out 0).trans rfl
                                  have hcz28_1 : w20.cell? ⟨gb135, 1, none⟩ = some (.int .i64 0) := (blk_cell BK135.out 1).trans rfl
                                  have hcz28_2 : w20.cell? ⟨gb135, 2, none⟩ = some (.int .i64 0) := (blk_cell BK135.out 2).trans rfl
                                  have hcz28_3 : w20.cell? ⟨gb135, 3, none⟩ = some (.int .i64 0) := (blk_cell BK135.out 3).trans rfl
                                  have hcz28_4 : w20.cell? ⟨gb135, 4, none⟩ = some (.int .i64 0) := (blk_cell BK135.out 4).trans rfl
                                  have hcz28_5 : w20.cell? ⟨gb135, 5, none⟩ = some (.int .i64 0) := (blk_cell BK135.out 5).trans rfl
                                  have hfz28_0 := blk_frozen BK135.out 0
                                  have hfz28_1 := blk_frozen BK135.out 1
                                  have hfz28_2 := blk_frozen BK135.out 2
                                  have hfz28_3 := blk_frozen BK135.out 3
                                  have hfz28_4 := blk_frozen BK135.out 4
                                  have hfz28_5 := blk_frozen BK135.out 5
                                  go_wp2
                                  go_meet
                                  case rel => exact ⟨_, (((wrap64 (x12_1 + 1)) == 2)), (by first | rfl | (simp; done) | (simp [*]; done) | (simp [wrap64]; done)), H', ⟨by have := HK1.out; first | omega | exact Nat.le_refl _⟩, ⟨by (with_reducible repeat (first | refine blk_drewN ?_ _ | refine blk_drew ?_ | refine blk_alloc ?_ _)); refine blk_put (cs := #[.int .i64 ((rd_T66 l2 x13_1).f0), .int .i64 ((rd_T66 l2 x13_1).f1), .int .i64 ((rd_T66 l2 x13_1).f2), .int .i64 ((rd_T66 l2 x13_1).f3), .int .i64 ((rd_T66 l2 x13_1).f4), .int .i64 0]) ?_ 5 _ rfl; (with_reducible repeat (first | refine blk_drewN ?_ _ | refine blk_drew ?_ | refine blk_alloc ?_ _)); refine blk_put (cs := #[.int .i64 ((rd_T66 l2 x13_1).f0), .int .i64 ((rd_T66 l2 x13_1).f1), .int .i64 ((rd_T66 l2 x13_1).f2), .int .i64 ((rd_T66 l2 x13_1).f3), .int .i64 0, .int .i64 0]) ?_ 4 _ rfl; (with_reducible repeat (first | refine blk_drewN ?_ _ | refine blk_drew ?_ | refine blk_alloc ?_ _)); refine blk_put (cs := #[.int .i64 ((rd_T66 l2 x13_1).f0), .int .i64 ((rd_T66 l2 x13_1).f1), .int .i64 ((rd_T66 l2 x13_1).f2), .int .i64 0, .int .i64 0, .int .i64 0]) ?_ 3 _ rfl; (with_reducible repeat (first | refine blk_drewN ?_ _ | refine blk_drew ?_ | refine blk_alloc ?_ _)); refine blk_put (cs := #[.int .i64 ((rd_T66 l2 x13_1).f0), .int .i64 ((rd_T66 l2 x13_1).f1), .int .i64 0, .int .i64 0, .int .i64 0, .int .i64 0]) ?_ 2 _ rfl; (with_reducible repeat (first | refine blk_drewN ?_ _ | refine blk_drew ?_ | refine blk_alloc ?_ _)); refine blk_put (cs := #[.int .i64 ((rd_T66 l2 x13_1).f0), .int .i64 0, .int .i64 0, .int .i64 0, .int .i64 0, .int .i64 0]) ?_ 1 _ rfl; (with_reducible repeat (first | refine blk_drewN ?_ _ | refine blk_drew ?_ | refine blk_alloc ?_ _)); refine blk_put (cs := #[.int .i64 0, .int .i64 0, .int .i64 0, .int .i64 0, .int .i64 0, .int .i64 0]) ?_ 0 _ rfl; (with_reducible repeat (first | refine blk_drewN ?_ _ | refine blk_drew ?_ | refine blk_alloc ?_ _)); exact BK135.out⟩, ⟨by repeat (first | (with_reducible first | exact HB.out | apply below_alloc | apply pw_below_drewN | apply below_drew1 | refine below_set ?_ GE135.out) | exact HB.out)⟩⟩
                            · rw [if_neg c23] at H
                              have c23b0 : (a1 == 3) = false := beq_eq_false_iff_ne.mpr c23
                              have c23b1 : (a1 != 3) = true := bne_iff_ne.mpr c23
                              by_cases c29 : t136 ≥ t137
                              · rw [if_pos c29] at H
                                have c29b0 : decide (t137 ≤ t136) = true := decide_eq_true c29
                                clear c29
                                have H' := Aside0.mk H
                                clear H
                                go_wp2
                                go_meet
                                case rel => exact ⟨_, (true), (by first | rfl | (simp; done) | (simp [*]; done) | (simp [wrap64]; done)), H', ⟨by have := HK1.out; first | omega | exact Nat.le_refl _⟩, ⟨by (with_reducible repeat (first | refine blk_drewN ?_ _ | refine blk_drew ?_ | refine blk_alloc ?_ _)); refine blk_put (cs := #[.int .i64 ((rd_T66 l2 x13_1).f0), .int .i64 ((rd_T66 l2 x13_1).f1), .int .i64 ((rd_T66 l2 x13_1).f2), .int .i64 ((rd_T66 l2 x13_1).f3), .int .i64 ((rd_T66 l2 x13_1).f4), .int .i64 0]) ?_ 5 _ rfl; (with_reducible repeat (first | refine blk_drewN ?_ _ | refine blk_drew ?_ | refine blk_alloc ?_ _)); refine blk_put (cs := #[.int .i64 ((rd_T66 l2 x13_1).f0), .int .i64 ((rd_T66 l2 x13_1).f1), .int .i64 ((rd_T66 l2 x13_1).f2), .int .i64 ((rd_T66 l2 x13_1).f3), .int .i64 0, .int .i64 0]) ?_ 4 _ rfl; (with_reducible repeat (first | refine blk_drewN ?_ _ | refine blk_drew ?_ | refine blk_alloc ?_ _)); refine blk_put (cs := #[.int .i64 ((rd_T66 l2 x13_1).f0), .int .i64 ((rd_T66 l2 x13_1).f1), .int .i64 ((rd_T66 l2 x13_1).f2), .int .i64 0, .int .i64 0, .int .i64 0]) ?_ 3 _ rfl; (with_reducible repeat (first | refine blk_drewN ?_ _ | refine blk_drew ?_ | refine blk_alloc ?_ _)); refine blk_put (cs := #[.int .i64 ((rd_T66 l2 x13_1).f0), .int .i64 ((rd_T66 l2 x13_1).f1), .int .i64 0, .int .i64 0, .int .i64 0, .int .i64 0]) ?_ 2 _ rfl; (with_reducible repeat (first | refine blk_drewN ?_ _ | refine blk_drew ?_ | refine blk_alloc ?_ _)); refine blk_put (cs := #[.int .i64 ((rd_T66 l2 x13_1).f0), .int .i64 0, .int .i64 0, .int .i64 0, .int .i64 0, .int .i64 0]) ?_ 1 _ rfl; (with_reducible repeat (first | refine blk_drewN ?_ _ | refine blk_drew ?_ | refine blk_alloc ?_ _)); refine blk_put (cs := #[.int .i64 0, .int .i64 0, .int .i64 0, .int .i64 0, .int .i64 0, .int .i64 0]) ?_ 0 _ rfl; (with_reducible repeat (first | refine blk_drewN ?_ _ | refine blk_drew ?_ | refine blk_alloc ?_ _)); exact BK135.out⟩, ⟨by repeat (first | (with_reducible first | exact HB.out | apply below_alloc | apply pw_below_drewN | apply below_drew1 | refine below_set ?_ GE135.out) | exact HB.out)⟩⟩
                              · rw [if_neg c29] at H
                                have c29b0 : decide (t137 ≤ t136) = false := decide_eq_false c29
                                clear c29
                                have H' := Aside0.mk H
                                clear H
                                go_wp2
                                go_meet
                                case rel => exact ⟨_, (((wrap64 (x12_1 + 1)) == 2)), (by first | rfl | (simp; done) | (simp [*]; done) | (simp [wrap64]; done)), H', ⟨by have := HK1.out; first | omega | exact Nat.le_refl _⟩, ⟨by (with_reducible repeat (first | refine blk_drewN ?_ _ | refine blk_drew ?_ | refine blk_alloc ?_ _)); refine blk_put (cs := #[.int .i64 ((rd_T66 l2 x13_1).f0), .int .i64 ((rd_T66 l2 x13_1).f1), .int .i64 ((rd_T66 l2 x13_1).f2), .int .i64 ((rd_T66 l2 x13_1).f3), .int .i64 ((rd_T66 l2 x13_1).f4), .int .i64 0]) ?_ 5 _ rfl; (with_reducible repeat (first | refine blk_drewN ?_ _ | refine blk_drew ?_ | refine blk_alloc ?_ _)); refine blk_put (cs := #[.int .i64 ((rd_T66 l2 x13_1).f0), .int .i64 ((rd_T66 l2 x13_1).f1), .int .i64 ((rd_T66 l2 x13_1).f2), .int .i64 ((rd_T66 l2 x13_1).f3), .int .i64 0, .int .i64 0]) ?_ 4 _ rfl; (with_reducible repeat (first | refine blk_drewN ?_ _ | refine blk_drew ?_ | refine blk_alloc ?_ _)); refine blk_put (cs := #[.int .i64 ((rd_T66 l2 x13_1).f0), .int .i64 ((rd_T66 l2 x13_1).f1), .int .i64 ((rd_T66 l2 x13_1).f2), .int .i64 0, .int .i64 0, .int .i64 0]) ?_ 3 _ rfl; (with_reducible repeat (first | refine blk_drewN ?_ _ | refine blk_drew ?_ | refine blk_alloc ?_ _)); refine blk_put (cs := #[.int .i64 ((rd_T66 l2 x13_1).f0), .int .i64 ((rd_T66 l2 x13_1).f1), .int .i64 0, .int .i64 0, .int .i64 0, .int .i64 0]) ?_ 2 _ rfl; (with_reducible repeat (first | refine blk_drewN ?_ _ | refine blk_drew ?_ | refine blk_alloc ?_ _)); refine blk_put (cs := #[.int .i64 ((rd_T66 l2 x13_1).f0), .int .i64 0, .int .i64 0, .int .i64 0, .int .i64 0, .int .i64 0]) ?_ 1 _ rfl; (with_reducible repeat (first | refine blk_drewN ?_ _ | refine blk_drew ?_ | refine blk_alloc ?_ _)); refine blk_put (cs := #[.int .i64 0, .int .i64 0, .int .i64 0, .int .i64 0, .int .i64 0, .int .i64 0]) ?_ 0 _ rfl; (with_reducible repeat (first | refine blk_drewN ?_ _ | refine blk_drew ?_ | refine blk_alloc ?_ _)); exact BK135.out⟩, ⟨by repeat (first | (with_reducible first | exact HB.out | apply below_alloc | apply pw_below_drewN | apply below_drew1 | refine below_set ?_ GE135.out) | exact HB.out)⟩⟩
                          · rw [if_neg c22] at H
                            have c22b0 : (a1 == 2) = false := beq_eq_false_iff_ne.mpr c22
                            have c22b1 : (a1 != 2) = true := bne_iff_ne.mpr c22
                            (first | rw [c22b0] | (simp only [i64_w, i32_w]; rw [c22b0]) | skip)
                            by_cases c30 : a1 = 3
                            · rw [if_pos c30] at H
                              have c30b0 : (a1 == 3) = true := beq_iff_eq.mpr c30
                              have c30b1 : (a1 != 3) = false := bne_eq_false_iff_eq.mpr c30
                              clear c30
                              by_cases c31 : ((rd_T66 l2 x13_1).f2) < 0
                              · rw [if_pos c31] at H
                                have c31b0 : decide (((rd_T66 l2 x13_1).f2) < 0) = true := decide_eq_true c31
                                clear c31
                                have H' := Aside0.mk H
                                clear H
                                have hcz32_0 : w20.cell? ⟨gb135, 0, none⟩ = some (.int .i64 0) := (blk_cell BK135.out 0).trans rfl
                                have hcz32_1 : w20.cell? ⟨gb135, 1, none⟩ = some (.int .i64 0) := (blk_cell BK135.out 1).trans rfl
                                have hcz32_2 : w20.cell? ⟨gb135, 2, none⟩ = some (.int .i64 0) := (blk_cell BK135.out 2).trans rfl
                                have hcz32_3 : w20.cell? ⟨gb135, 3, none⟩ = some (.int .i64 0) := (blk_cell BK135.out 3).trans rfl
                                have hcz32_4 : w20.cell? ⟨gb135, 4, none⟩ = some (.int .i64 0) := (blk_cell BK135.out 4).trans rfl
                                have hcz32_5 : w20.cell? ⟨gb135, 5, none⟩ = some (.int .i64 0) := (blk_cell BK135.out 5).trans rfl
                                have hfz32_0 := blk_frozen BK135.out 0
                                have hfz32_1 := blk_frozen BK135.out 1
                                have hfz32_2 := blk_frozen BK135.out 2
                                have hfz32_3 := blk_frozen BK135.out 3
                                have hfz32_4 := blk_frozen BK135.out 4
                                have hfz32_5 := blk_frozen BK135.out 5
                                go_wp2
                                go_meet
                                case rel => exact ⟨_, (true), (by first | rfl | (simp; done) | (simp [*]; done) | (simp [wrap64]; done)), H', ⟨by have := HK1.out; first | omega | exact Nat.le_refl _⟩, ⟨by (with_reducible repeat (first | refine blk_drewN ?_ _ | refine blk_drew ?_ | refine blk_alloc ?_ _)); refine blk_put (cs := #[.int .i64 ((rd_T66 l2 x13_1).f0), .int .i64 ((rd_T66 l2 x13_1).f1), .int .i64 ((rd_T66 l2 x13_1).f2), .int .i64 ((rd_T66 l2 x13_1).f3), .int .i64 ((rd_T66 l2 x13_1).f4), .int .i64 0]) ?_ 5 _ rfl; (with_reducible repeat (first | refine blk_drewN ?_ _ | refine blk_drew ?_ | refine blk_alloc ?_ _)); refine blk_put (cs := #[.int .i64 ((rd_T66 l2 x13_1).f0), .int .i64 ((rd_T66 l2 x13_1).f1), .int .i64 ((rd_T66 l2 x13_1).f2), .int .i64 ((rd_T66 l2 x13_1).f3), .int .i64 0, .int .i64 0]) ?_ 4 _ rfl; (with_reducible repeat (first | refine blk_drewN ?_ _ | refine blk_drew ?_ | refine blk_alloc ?_ _)); refine blk_put (cs := #[.int .i64 ((rd_T66 l2 x13_1).f0), .int .i64 ((rd_T66 l2 x13_1).f1), .int .i64 ((rd_T66 l2 x13_1).f2), .int .i64 0, .int .i64 0, .int .i64 0]) ?_ 3 _ rfl; (with_reducible repeat (first | refine blk_drewN ?_ _ | refine blk_drew ?_ | refine blk_alloc ?_ _)); refine blk_put (cs := #[.int .i64 ((rd_T66 l2 x13_1).f0), .int .i64 ((rd_T66 l2 x13_1).f1), .int .i64 0, .int .i64 0, .int .i64 0, .int .i64 0]) ?_ 2 _ rfl; (with_reducible repeat (first | refine blk_drewN ?_ _ | refine blk_drew ?_ | refine blk_alloc ?_ _)); refine blk_put (cs := #[.int .i64 ((rd_T66 l2 x13_1).f0), .int .i64 0, .int .i64 0, .int .i64 0, .int .i64 0, .int .i64 0]) ?_ 1 _ rfl; (with_reducible repeat (first | refine blk_drewN ?_ _ | refine blk_drew ?_ | refine blk_alloc ?_ _)); refine blk_put (cs := #[.int .i64 0, .int .i64 0, .int .i64 0, .int .i64 0, .int .i64 0, .int .i64 0]) ?_ 0 _ rfl; (with_reducible repeat (first | refine blk_drewN ?_ _ | refine blk_drew ?_ | refine blk_alloc ?_ _)); exact BK135.out⟩, ⟨by repeat (first | (with_reducible first | exact HB.out | apply below_alloc | apply pw_below_drewN | apply below_drew1 | refine below_set ?_ GE135.out) | exact HB.out)⟩⟩
                              · rw [if_neg c31] at H
                                have c31b0 : decide (((rd_T66 l2 x13_1).f2) < 0) = false := decide_eq_false c31
                                clear c31
                                by_cases c33 : t136 ≥ t137
                                · rw [if_pos c33] at H
                                  have c33b0 : decide (t137 ≤ t136) = true := decide_eq_true c33
                                  clear c33
                                  have H' := Aside0.mk H
                                  clear H
                                  have hcz34_0 : w20.cell? ⟨gb135, 0, none⟩ = some (.int .i64 0) := (blk_cell BK135.out 0).trans rfl
                                  have hcz34_1 : w20.cell? ⟨gb135, 1, none⟩ = some (.int .i64 0) := (blk_cell BK135.out 1).trans rfl
                                  have hcz34_2 : w20.cell? ⟨gb135, 2, none⟩ = some (.int .i64 0) := (blk_cell BK135.out 2).trans rfl
                                  have hcz34_3 : w20.cell? ⟨gb135, 3, none⟩ = some (.int .i64 0) := (blk_cell BK135.out 3).trans rfl
                                  have hcz34_4 : w20.cell? ⟨gb135, 4, none⟩ = some (.int .i64 0) := (blk_cell BK135.out 4).trans rfl
                                  have hcz34_5 : w20.cell? ⟨gb135, 5, none⟩ = some (.int .i64 0) := (blk_cell BK135.out 5).trans rfl
                                  have hfz34_0 := blk_frozen BK135.out 0
                                  have hfz34_1 := blk_frozen BK135.out 1
                                  have hfz34_2 := blk_frozen BK135.out 2
                                  have hfz34_3 := blk_frozen BK135.out 3
                                  have hfz34_4 := blk_frozen BK135.out 4
                                  have hfz34_5 := blk_frozen BK135.out 5
                                  go_wp2
                                  go_meet
                                  case rel => exact ⟨_, (true), (by first | rfl | (simp; done) | (simp [*]; done) | (simp [wrap64]; done)), H', ⟨by have := HK1.out; first | omega | exact Nat.le_refl _⟩, ⟨by (with_reducible repeat (first | refine blk_drewN ?_ _ | refine blk_drew ?_ | refine blk_alloc ?_ _)); refine blk_put (cs := #[.int .i64 ((rd_T66 l2 x13_1).f0), .int .i64 ((rd_T66 l2 x13_1).f1), .int .i64 ((rd_T66 l2 x13_1).f2), .int .i64 ((rd_T66 l2 x13_1).f3), .int .i64 ((rd_T66 l2 x13_1).f4), .int .i64 0]) ?_ 5 _ rfl; (with_reducible repeat (first | refine blk_drewN ?_ _ | refine blk_drew ?_ | refine blk_alloc ?_ _)); refine blk_put (cs := #[.int .i64 ((rd_T66 l2 x13_1).f0), .int .i64 ((rd_T66 l2 x13_1).f1), .int .i64 ((rd_T66 l2 x13_1).f2), .int .i64 ((rd_T66 l2 x13_1).f3), .int .i64 0, .int .i64 0]) ?_ 4 _ rfl; (with_reducible repeat (first | refine blk_drewN ?_ _ | refine blk_drew ?_ | refine blk_alloc ?_ _)); refine blk_put (cs := #[.int .i64 ((rd_T66 l2 x13_1).f0), .int .i64 ((rd_T66 l2 x13_1).f1), .int .i64 ((rd_T66 l2 x13_1).f2), .int .i64 0, .int .i64 0, .int .i64 0]) ?_ 3 _ rfl; (with_reducible repeat (first | refine blk_drewN ?_ _ | refine blk_drew ?_ | refine blk_alloc ?_ _)); refine blk_put (cs := #[.int .i64 ((rd_T66 l2 x13_1).f0), .int .i64 ((rd_T66 l2 x13_1).f1), .int .i64 0, .int .i64 0, .int .i64 0, .int .i64 0]) ?_ 2 _ rfl; (with_reducible repeat (first | refine blk_drewN ?_ _ | refine blk_drew ?_ | refine blk_alloc ?_ _)); refine blk_put (cs := #[.int .i64 ((rd_T66 l2 x13_1).f0), .int .i64 0, .int .i64 0, .int .i64 0, .int .i64 0, .int .i64 0]) ?_ 1 _ rfl; (with_reducible repeat (first | refine blk_drewN ?_ _ | refine blk_drew ?_ | refine blk_alloc ?_ _)); refine blk_put (cs := #[.int .i64 0, .int .i64 0, .int .i64 0, .int .i64 0, .int .i64 0, .int .i64 0]) ?_ 0 _ rfl; (with_reducible repeat (first | refine blk_drewN ?_ _ | refine blk_drew ?_ | refine blk_alloc ?_ _)); exact BK135.out⟩, ⟨by repeat (first | (with_reducible first | exact HB.out | apply below_alloc | apply pw_below_drewN | apply below_drew1 | refine below_set ?_ GE135.out) | exact HB.out)⟩⟩
                                · rw [if_neg c33] at H
                                  have c33b0 : decide (t137 ≤ t136) = false := decide_eq_false c33
                                  clear c33
                                  have H' := Aside0.mk H
                                  clear H
                                  have hcz35_0 : w20.cell? ⟨gb135, 0, none⟩ = some (.int .i64 0) := (blk_cell BK135.out 0).trans rfl
                                  have hcz35_1 : w20.cell? ⟨gb135, 1, none⟩ = some (.int .i64 0) := (blk_cell BK135.out 1).trans rfl
                                  have hcz35_2 : w20.cell? ⟨gb135, 2, none⟩ = some (.int .i64 0) := (blk_cell BK135.out 2).trans rfl
                                  have hcz35_3 : w20.cell? ⟨gb135, 3, none⟩ = some (.int .i64 0) := (blk_cell BK135.out 3).trans rfl
                                  have hcz35_4 : w20.cell? ⟨gb135, 4, none⟩ = some (.int .i64 0) := (blk_cell BK135.out 4).trans rfl
                                  have hcz35_5 : w20.cell? ⟨gb135, 5, none⟩ = some (.int .i64 0) := (blk_cell BK135.out 5).trans rfl
                                  have hfz35_0 := blk_frozen BK135.out 0
                                  have hfz35_1 := blk_frozen BK135.out 1
                                  have hfz35_2 := blk_frozen BK135.out 2
                                  have hfz35_3 := blk_frozen BK135.out 3
                                  have hfz35_4 := blk_frozen BK135.out 4
                                  have hfz35_5 := blk_frozen BK135.out 5
                                  go_wp2
                                  go_meet
                                  case rel => exact ⟨_, (((wrap64 (x12_1 + 1)) == 2)), (by first | rfl | (simp; done) | (simp [*]; done) | (simp [wrap64]; done)), H', ⟨by have := HK1.out; first | omega | exact Nat.le_refl _⟩, ⟨by (with_reducible repeat (first | refine blk_drewN ?_ _ | refine blk_drew ?_ | refine blk_alloc ?_ _)); refine blk_put (cs := #[.int .i64 ((rd_T66 l2 x13_1).f0), .int .i64 ((rd_T66 l2 x13_1).f1), .int .i64 ((rd_T66 l2 x13_1).f2), .int .i64 ((rd_T66 l2 x13_1).f3), .int .i64 ((rd_T66 l2 x13_1).f4), .int .i64 0]) ?_ 5 _ rfl; (with_reducible repeat (first | refine blk_drewN ?_ _ | refine blk_drew ?_ | refine blk_alloc ?_ _)); refine blk_put (cs := #[.int .i64 ((rd_T66 l2 x13_1).f0), .int .i64 ((rd_T66 l2 x13_1).f1), .int .i64 ((rd_T66 l2 x13_1).f2), .int .i64 ((rd_T66 l2 x13_1).f3), .int .i64 0, .int .i64 0]) ?_ 4 _ rfl; (with_reducible repeat (first | refine blk_drewN ?_ _ | refine blk_drew ?_ | refine blk_alloc ?_ _)); refine blk_put (cs := #[.int .i64 ((rd_T66 l2 x13_1).f0), .int .i64 ((rd_T66 l2 x13_1).f1), .int .i64 ((rd_T66 l2 x13_1).f2), .int .i64 0, .int .i64 0, .int .i64 0]) ?_ 3 _ rfl; (with_reducible repeat (first | refine blk_drewN ?_ _ | refine blk_drew ?_ | refine blk_alloc ?_ _)); refine blk_put (cs := #[.int .i64 ((rd_T66 l2 x13_1).f0), .int .i64 ((rd_T66 l2 x13_1).f1), .int .i64 0, .int .i64 0, .int .i64 0, .int .i64 0]) ?_ 2 _ rfl; (with_reducible repeat (first | refine blk_drewN ?_ _ | refine blk_drew ?_ | refine blk_alloc ?_ _)); refine blk_put (cs := #[.int .i64 ((rd_T66 l2 x13_1).f0), .int .i64 0, .int .i64 0, .int .i64 0, .int .i64 0, .int .i64 0]) ?_ 1 _ rfl; (with_reducible repeat (first | refine blk_drewN ?_ _ | refine blk_drew ?_ | refine blk_alloc ?_ _)); refine blk_put (cs := #[.int .i64 0, .int .i64 0, .int .i64 0, .int .i64 0, .int .i64 0, .int .i64 0]) ?_ 0 _ rfl; (with_reducible repeat (first | refine blk_drewN ?_ _ | refine blk_drew ?_ | refine blk_alloc ?_ _)); exact BK135.out⟩, ⟨by repeat (first | (with_reducible first | exact HB.out | apply below_alloc | apply pw_below_drewN | apply below_drew1 | refine below_set ?_ GE135.out) | exact HB.out)⟩⟩
                            · rw [if_neg c30] at H
                              have c30b0 : (a1 == 3) = false := beq_eq_false_iff_ne.mpr c30
                              have c30b1 : (a1 != 3) = true := bne_iff_ne.mpr c30
                              have H' := Aside0.mk H
                              clear H
                              go_wp2
                              go_meet
                              case rel => exact ⟨_, (true), (by first | rfl | (simp; done) | (simp [*]; done) | (simp [wrap64]; done)), H', ⟨by have := HK1.out; first | omega | exact Nat.le_refl _⟩, ⟨by (with_reducible repeat (first | refine blk_drewN ?_ _ | refine blk_drew ?_ | refine blk_alloc ?_ _)); refine blk_put (cs := #[.int .i64 ((rd_T66 l2 x13_1).f0), .int .i64 ((rd_T66 l2 x13_1).f1), .int .i64 ((rd_T66 l2 x13_1).f2), .int .i64 ((rd_T66 l2 x13_1).f3), .int .i64 ((rd_T66 l2 x13_1).f4), .int .i64 0]) ?_ 5 _ rfl; (with_reducible repeat (first | refine blk_drewN ?_ _ | refine blk_drew ?_ | refine blk_alloc ?_ _)); refine blk_put (cs := #[.int .i64 ((rd_T66 l2 x13_1).f0), .int .i64 ((rd_T66 l2 x13_1).f1), .int .i64 ((rd_T66 l2 x13_1).f2), .int .i64 ((rd_T66 l2 x13_1).f3), .int .i64 0, .int .i64 0]) ?_ 4 _ rfl; (with_reducible repeat (first | refine blk_drewN ?_ _ | refine blk_drew ?_ | refine blk_alloc ?_ _)); refine blk_put (cs := #[.int .i64 ((rd_T66 l2 x13_1).f0), .int .i64 ((rd_T66 l2 x13_1).f1), .int .i64 ((rd_T66 l2 x13_1).f2), .int .i64 0, .int .i64 0, .int .i64 0]) ?_ 3 _ rfl; (with_reducible repeat (first | refine blk_drewN ?_ _ | refine blk_drew ?_ | refine blk_alloc ?_ _)); refine blk_put (cs := #[.int .i64 ((rd_T66 l2 x13_1).f0), .int .i64 ((rd_T66 l2 x13_1).f1), .int .i64 0, .int .i64 0, .int .i64 0, .int .i64 0]) ?_ 2 _ rfl; (with_reducible repeat (first | refine blk_drewN ?_ _ | refine blk_drew ?_ | refine blk_alloc ?_ _)); refine blk_put (cs := #[.int .i64 ((rd_T66 l2 x13_1).f0), .int .i64 0, .int .i64 0, .int .i64 0, .int .i64 0, .int .i64 0]) ?_ 1 _ rfl; (with_reducible repeat (first | refine blk_drewN ?_ _ | refine blk_drew ?_ | refine blk_alloc ?_ _)); refine blk_put (cs := #[.int .i64 0, .int .i64 0, .int .i64 0, .int .i64 0, .int .i64 0, .int .i64 0]) ?_ 0 _ rfl; (with_reducible repeat (first | refine blk_drewN ?_ _ | refine blk_drew ?_ | refine blk_alloc ?_ _)); exact BK135.out⟩, ⟨by repeat (first | (with_reducible first | exact HB.out | apply below_alloc | apply pw_below_drewN | apply below_drew1 | refine below_set ?_ GE135.out) | exact HB.out)⟩⟩
                        case rest =>
                          clear HC19; (try clear c1); (try clear p1); (try clear q1); (try clear hx1); (try clear c2); (try clear p2); (try clear c3); (try clear c6); (try clear c6b0); (try clear p6); (try clear c7); (try clear c7b0); (try clear c8); (try clear c8b0); (try clear c11); (try clear c11b0); (try clear c11b1); (try clear c12); (try clear c12b0); (try clear c12b1); (try clear c13); (try clear c13b0); (try clear c13b1); (try clear p13); (try clear q13); (try clear hx13); (try clear c15); (try clear c15b0); (try clear c15b1); (try clear c16); (try clear c16b0); (try clear c16b1); (try clear c17); (try clear c17b0); (try clear c17b1); (try clear c22); (try clear c22b0); (try clear c22b1); (try clear c23); (try clear c23b0); (try clear c23b1); (try clear c24); (try clear c24b0); (try clear c26); (try clear c26b0); (try clear c29); (try clear c29b0); (try clear c30); (try clear c30b0); (try clear c30b1); (try clear c31); (try clear c31b0); (try clear c33); (try clear c33b0); (try clear hcz10_0); (try clear hcz10_1); (try clear hcz10_2); (try clear hcz10_3); (try clear hcz10_4); (try clear hcz10_5); (try clear hcz21_0); (try clear hcz21_1); (try clear hcz21_2); (try clear hcz21_3); (try clear hcz21_4); (try clear hcz21_5); (try clear hcz25_0); (try clear hcz25_1); (try clear hcz25_2); (try clear hcz25_3); (try clear hcz25_4); (try clear hcz25_5); (try clear hcz27_0); (try clear hcz27_1); (try clear hcz27_2); (try clear hcz27_3); (try clear hcz27_4); (try clear hcz27_5); (try clear hcz28_0); (try clear hcz28_1); (try clear hcz28_2); (try clear hcz28_3); (try clear hcz28_4); (try clear hcz28_5); (try clear hcz32_0); (try clear hcz32_1); (try clear hcz32_2); (try clear hcz32_3); (try clear hcz32_4); (try clear hcz32_5); (try clear hcz34_0); (try clear hcz34_1); (try clear hcz34_2); (try clear hcz34_3); (try clear hcz34_4); (try clear hcz34_5); (try clear hcz35_0); (try clear hcz35_1); (try clear hcz35_2); (try clear hcz35_3); (try clear hcz35_4); (try clear hcz35_5); (try clear hfz10_0); (try clear hfz10_1); (try clear hfz10_2); (try clear hfz10_3); (try clear hfz10_4); (try clear hfz10_5); (try clear hfz21_0); (try clear hfz21_1); (try clear hfz21_2); (try clear hfz21_3); (try clear hfz21_4); (try clear hfz21_5); (try clear hfz25_0); (try clear hfz25_1); (try clear hfz25_2); (try clear hfz25_3); (try clear hfz25_4); (try clear hfz25_5); (try clear hfz27_0); (try clear hfz27_1); (try clear hfz27_2); (try clear hfz27_3); (try clear hfz27_4); (try clear hfz27_5); (try clear hfz28_0); (try clear hfz28_1); (try clear hfz28_2); (try clear hfz28_3); (try clear hfz28_4); (try clear hfz28_5); (try clear hfz32_0); (try clear hfz32_1); (try clear hfz32_2); (try clear hfz32_3); (try clear hfz32_4); (try clear hfz32_5); (try clear hfz34_0); (try clear hfz34_1); (try clear hfz34_2); (try clear hfz34_3); (try clear hfz34_4); (try clear hfz34_5); (try clear hfz35_0); (try clear hfz35_1); (try clear hfz35_2); (try clear hfz35_3); (try clear hfz35_4); (try clear hfz35_5); (try clear hx134_0); (try clear hx134_1); (try clear hx134_2); (try clear hx134_3); (try clear hx134_4); (try clear hx134_5); (try clear p134); (try clear p2); (try clear q134)
                          obtain ⟨kq, x69_18, rfl, HA, HJ18, BK135, HB⟩ := hcut
                          cases kq with
                          | zero => exact absurd HA.out (by simp [vivariumref04_shift.j1])
                          | succ kj18 =>
                            have H := HA.out
                            clear HA
                            simp only [vivariumref04_shift.j1] at H
                            by_cases c36 : x69_18 = true
                            · subst c36
                              have H1 : (some (((rd_T66 l2 x13_1).f3), true)) = some (r1, r2) := by rw [if_pos rfl] at H; exact H
                              clear H
                              have H := H1
                              clear H1
                              simp only [Option.some.injEq, Prod.mk.injEq] at H
                              obtain ⟨rfl, rfl⟩ := H
                              have hcz37_0 : wc.cell? ⟨gb135, 0, none⟩ = some (.int .i64 ((rd_T66 l2 x13_1).f0)) := (blk_cell BK135.out 0).trans rfl
                              have hcz37_1 : wc.cell? ⟨gb135, 1, none⟩ = some (.int .i64 ((rd_T66 l2 x13_1).f1)) := (blk_cell BK135.out 1).trans rfl
                              have hcz37_2 : wc.cell? ⟨gb135, 2, none⟩ = some (.int .i64 ((rd_T66 l2 x13_1).f2)) := (blk_cell BK135.out 2).trans rfl
                              have hcz37_3 : wc.cell? ⟨gb135, 3, none⟩ = some (.int .i64 ((rd_T66 l2 x13_1).f3)) := (blk_cell BK135.out 3).trans rfl
                              have hcz37_4 : wc.cell? ⟨gb135, 4, none⟩ = some (.int .i64 ((rd_T66 l2 x13_1).f4)) := (blk_cell BK135.out 4).trans rfl
                              have hcz37_5 : wc.cell? ⟨gb135, 5, none⟩ = some (.int .i64 ((rd_T66 l2 x13_1).f5)) := (blk_cell BK135.out 5).trans rfl
                              have hfz37_0 := blk_frozen BK135.out 0
                              have hfz37_1 := blk_frozen BK135.out 1
                              have hfz37_2 := blk_frozen BK135.out 2
                              have hfz37_3 := blk_frozen BK135.out 3
                              have hfz37_4 := blk_frozen BK135.out 4
                              have hfz37_5 := blk_frozen BK135.out 5
                              go_wp2
                              go_ret2
                              exact ⟨by first | rfl | (simp [errW_none, errW_some] <;> rfl) | (simp [*, errW_none, errW_some] <;> rfl), by repeat (first | (with_reducible first | exact HB.out | apply below_alloc | apply pw_below_drewN | apply below_drew1 | refine below_set ?_ GE135.out) | exact HB.out)⟩
                            · replace c36 := Bool.eq_false_iff.mpr c36
                              subst c36
                              have H1 : (if a1 = 2 then (if t136 = 0 then (some (((rd_T66 l2 x13_1).f3), true)) else (if a3 = 0 then (some (((rd_T66 l2 x13_1).f3), true)) else (if a4 = 0 then (some (((rd_T66 l2 x13_1).f3), true)) else (vivariumref04_shift.l0 kj18 a0 a1 l2 a3 a4 (wrap64 (x12_1 + 1)) (wrap64 (x13_1 + 1)))))) else (vivariumref04_shift.l0 kj18 a0 a1 l2 a3 a4 (wrap64 (x12_1 + 1)) (wrap64 (x13_1 + 1)))) = some (r1, r2) := by rw [if_neg (show ¬ (false = true) by decide)] at H; exact H
                              clear H
                              have H := H1
                              clear H1
                              by_cases c38 : a1 = 2
                              · rw [if_pos c38] at H
                                have c38b0 : (a1 == 2) = true := beq_iff_eq.mpr c38
                                have c38b1 : (a1 != 2) = false := bne_eq_false_iff_eq.mpr c38
                                clear c38
                                by_cases c39 : t136 = 0
                                · rw [if_pos c39] at H
                                  have c39b0 : (t136 == 0) = true := beq_iff_eq.mpr c39
                                  have c39b1 : (t136 != 0) = false := bne_eq_false_iff_eq.mpr c39
                                  clear c39
                                  simp only [Option.some.injEq, Prod.mk.injEq] at H
                                  obtain ⟨rfl, rfl⟩ := H
                                  have hcz40_0 : wc.cell? ⟨gb135, 0, none⟩ = some (.int .i64 ((rd_T66 l2 x13_1).f0)) := (blk_cell BK135.out 0).trans rfl
                                  have hcz40_1 : wc.cell? ⟨gb135, 1, none⟩ = some (.int .i64 ((rd_T66 l2 x13_1).f1)) := (blk_cell BK135.out 1).trans rfl
                                  have hcz40_2 : wc.cell? ⟨gb135, 2, none⟩ = some (.int .i64 ((rd_T66 l2 x13_1).f2)) := (blk_cell BK135.out 2).trans rfl
                                  have hcz40_3 : wc.cell? ⟨gb135, 3, none⟩ = some (.int .i64 ((rd_T66 l2 x13_1).f3)) := (blk_cell BK135.out 3).trans rfl
                                  have hcz40_4 : wc.cell? ⟨gb135, 4, none⟩ = some (.int .i64 ((rd_T66 l2 x13_1).f4)) := (blk_cell BK135.out 4).trans rfl
                                  have hcz40_5 : wc.cell? ⟨gb135, 5, none⟩ = some (.int .i64 ((rd_T66 l2 x13_1).f5)) := (blk_cell BK135.out 5).trans rfl
                                  have hfz40_0 := blk_frozen BK135.out 0
                                  have hfz40_1 := blk_frozen BK135.out 1
                                  have hfz40_2 := blk_frozen BK135.out 2
                                  have hfz40_3 := blk_frozen BK135.out 3
                                  have hfz40_4 := blk_frozen BK135.out 4
                                  have hfz40_5 := blk_frozen BK135.out 5
                                  go_wp2
                                  go_ret2
                                  exact ⟨by first | rfl | (simp [errW_none, errW_some] <;> rfl) | (simp [*, errW_none, errW_some] <;> rfl), by repeat (first | (with_reducible first | exact HB.out | apply below_alloc | apply pw_below_drewN | apply below_drew1 | refine below_set ?_ GE135.out) | exact HB.out)⟩
                                · rw [if_neg c39] at H
                                  have c39b0 : (t136 == 0) = false := beq_eq_false_iff_ne.mpr c39
                                  have c39b1 : (t136 != 0) = true := bne_iff_ne.mpr c39
                                  by_cases c41 : a3 = 0
                                  · rw [if_pos c41] at H
                                    have c41b0 : (a3 == 0) = true := beq_iff_eq.mpr c41
                                    have c41b1 : (a3 != 0) = false := bne_eq_false_iff_eq.mpr c41
                                    clear c41
                                    simp only [Option.some.injEq, Prod.mk.injEq] at H
                                    obtain ⟨rfl, rfl⟩ := H
                                    have hcz42_0 : wc.cell? ⟨gb135, 0, none⟩ = some (.int .i64 ((rd_T66 l2 x13_1).f0)) := (blk_cell BK135.out 0).trans rfl
                                    have hcz42_1 : wc.cell? ⟨gb135, 1, none⟩ = some (.int .i64 ((rd_T66 l2 x13_1).f1)) := (blk_cell BK135.out 1).trans rfl
                                    have hcz42_2 : wc.cell? ⟨gb135, 2, none⟩ = some (.int .i64 ((rd_T66 l2 x13_1).f2)) := (blk_cell BK135.out 2).trans rfl
                                    have hcz42_3 : wc.cell? ⟨gb135, 3, none⟩ = some (.int .i64 ((rd_T66 l2 x13_1).f3)) := (blk_cell BK135.out 3).trans rfl
                                    have hcz42_4 : wc.cell? ⟨gb135, 4, none⟩ = some (.int .i64 ((rd_T66 l2 x13_1).f4)) := (blk_cell BK135.out 4).trans rfl
                                    have hcz42_5 : wc.cell? ⟨gb135, 5, none⟩ = some (.int .i64 ((rd_T66 l2 x13_1).f5)) := (blk_cell BK135.out 5).trans rfl
                                    have hfz42_0 := blk_frozen BK135.out 0
                                    have hfz42_1 := blk_frozen BK135.out 1
                                    have hfz42_2 := blk_frozen BK135.out 2
                                    have hfz42_3 := blk_frozen BK135.out 3
                                    have hfz42_4 := blk_frozen BK135.out 4
                                    have hfz42_5 := blk_frozen BK135.out 5
                                    go_wp2
                                    go_ret2
                                    exact ⟨by first | rfl | (simp [errW_none, errW_some] <;> rfl) | (simp [*, errW_none, errW_some] <;> rfl), by repeat (first | (with_reducible first | exact HB.out | apply below_alloc | apply pw_below_drewN | apply below_drew1 | refine below_set ?_ GE135.out) | exact HB.out)⟩
                                  · rw [if_neg c41] at H
                                    have c41b0 : (a3 == 0) = false := beq_eq_false_iff_ne.mpr c41
                                    have c41b1 : (a3 != 0) = true := bne_iff_ne.mpr c41
                                    by_cases c43 : a4 = 0
                                    · rw [if_pos c43] at H
                                      have c43b0 : (a4 == 0) = true := beq_iff_eq.mpr c43
                                      have c43b1 : (a4 != 0) = false := bne_eq_false_iff_eq.mpr c43
                                      clear c43
                                      simp only [Option.some.injEq, Prod.mk.injEq] at H
                                      obtain ⟨rfl, rfl⟩ := H
                                      have hcz44_0 : wc.cell? ⟨gb135, 0, none⟩ = some (.int .i64 ((rd_T66 l2 x13_1).f0)) := (blk_cell BK135.out 0).trans rfl
                                      have hcz44_1 : wc.cell? ⟨gb135, 1, none⟩ = some (.int .i64 ((rd_T66 l2 x13_1).f1)) := (blk_cell BK135.out 1).trans rfl
                                      have hcz44_2 : wc.cell? ⟨gb135, 2, none⟩ = some (.int .i64 ((rd_T66 l2 x13_1).f2)) := (blk_cell BK135.out 2).trans rfl
                                      have hcz44_3 : wc.cell? ⟨gb135, 3, none⟩ = some (.int .i64 ((rd_T66 l2 x13_1).f3)) := (blk_cell BK135.out 3).trans rfl
                                      have hcz44_4 : wc.cell? ⟨gb135, 4, none⟩ = some (.int .i64 ((rd_T66 l2 x13_1).f4)) := (blk_cell BK135.out 4).trans rfl
                                      have hcz44_5 : wc.cell? ⟨gb135, 5, none⟩ = some (.int .i64 ((rd_T66 l2 x13_1).f5)) := (blk_cell BK135.out 5).trans rfl
                                      have hfz44_0 := blk_frozen BK135.out 0
                                      have hfz44_1 := blk_frozen BK135.out 1
                                      have hfz44_2 := blk_frozen BK135.out 2
                                      have hfz44_3 := blk_frozen BK135.out 3
                                      have hfz44_4 := blk_frozen BK135.out 4
                                      have hfz44_5 := blk_frozen BK135.out 5
                                      go_wp2
                                      go_ret2
                                      exact ⟨by first | rfl | (simp [errW_none, errW_some] <;> rfl) | (simp [*, errW_none, errW_some] <;> rfl), by repeat (first | (with_reducible first | exact HB.out | apply below_alloc | apply pw_below_drewN | apply below_drew1 | refine below_set ?_ GE135.out) | exact HB.out)⟩
                                    · rw [if_neg c43] at H
                                      have c43b0 : (a4 == 0) = false := beq_eq_false_iff_ne.mpr c43
                                      have c43b1 : (a4 != 0) = true := bne_iff_ne.mpr c43
                                      have H' := Aside0.mk H
                                      clear H
                                      go_wp2
                                      go_roundg kj18
                                      case measure => have := HK1.out; have := HJ18.out; omega
                                      case rel => exact ⟨((wrap64 (x12_1 + 1))), (wrap64 (x13_1 + 1)), (by first | rfl | (simp; done) | (simp [*]; done) | (simp [wrap64]; done)), (by first | rfl | (simp; done) | (simp [*]; done) | (simp [wrap64]; done)), H', ⟨by have := HK1.out; have := HJ18.out; omega⟩, ⟨by repeat (first | (with_reducible first | exact HB.out | apply below_alloc | apply pw_below_drewN | apply below_drew1 | refine below_set ?_ GE135.out) | exact HB.out)⟩⟩
                              · rw [if_neg c38] at H
                                have c38b0 : (a1 == 2) = false := beq_eq_false_iff_ne.mpr c38
                                have c38b1 : (a1 != 2) = true := bne_iff_ne.mpr c38
                                have H' := Aside0.mk H
                                clear H
                                go_wp2
                                go_roundg kj18
                                case measure => have := HK1.out; have := HJ18.out; omega
                                case rel => exact ⟨((wrap64 (x12_1 + 1))), (wrap64 (x13_1 + 1)), (by first | rfl | (simp; done) | (simp [*]; done) | (simp [wrap64]; done)), (by first | rfl | (simp; done) | (simp [*]; done) | (simp [wrap64]; done)), H', ⟨by have := HK1.out; have := HJ18.out; omega⟩, ⟨by repeat (first | (with_reducible first | exact HB.out | apply below_alloc | apply pw_below_drewN | apply below_drew1 | refine below_set ?_ GE135.out) | exact HB.out)⟩⟩
                      · rw [if_neg c17] at H
                        exact absurd H (by simp)
                    · rw [if_neg c16] at H
                      exact absurd H (by simp)
                  · rw [if_neg c15] at H
                    exact absurd H (by simp)
                · rw [if_neg c13] at H
                  exact absurd H (by simp)
              · rw [if_neg c12] at H
                exact absurd H (by simp)
            · rw [if_neg c11] at H
              exact absurd H (by simp)
        · rw [if_neg c7] at H
          exact absurd H (by simp)
      · rw [if_neg c6] at H
        have c6b0 : decide (x13_1 < (l2.length : Int)) = false := decide_eq_false c6
        clear c6
        simp only [Option.some.injEq, Prod.mk.injEq] at H
        obtain ⟨rfl, rfl⟩ := H
        go_wp2
        go_ret2
        exact ⟨by first | rfl | (simp [errW_none, errW_some] <;> rfl) | (simp [*, errW_none, errW_some] <;> rfl), by repeat (first | (with_reducible first | exact HB.out | apply below_alloc | apply pw_below_drewN | apply below_drew1) | exact HB.out)⟩

-- NOT PRINTED: function 17 (vivariumref04_Parse)

end Go.Proofs.Ytmcidodpnhkdfaa.PF
