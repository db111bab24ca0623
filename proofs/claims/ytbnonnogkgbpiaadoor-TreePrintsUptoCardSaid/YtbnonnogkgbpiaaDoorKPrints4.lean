/- What the row of this claim leans on, part 4. -/
import Derived.Test.YtbnonnogkgbpiaaDoorKPrints3
section
namespace Go.Proofs.YtbnonnogkgbpiaaDoor.PT
open Go.RowKit Go.Proofs.YtbnonnogkgbpiaaDoorW.PrintWords Go.Proofs.YtbnonnogkgbpiaaDoorW.PrintLast Go.Proofs.YtbnonnogkgbpiaaDoorW.PrintMore
attribute [local go_sem] max2_int min2_int max_two min_two max_three min_three max_four min_four   -- for this text's walks alone
set_option linter.unusedVariables false
set_option linter.unusedSimpArgs false
mutual
def vivariumref11_Check.j0 : Nat → Bool → Int → Int → List (S49) → Int → Option (Int)
  | 0, _, _, _, _, _ => none
  | k + 1, x49, x135000, x135001, x135002, x135003 => if x49 = true then (some 110) else (if 0 ≤ (x135002.length : Int) then (if ((x135002.length : Int) : Int).toNat ≤ 35184372088832 then (vivariumref11_Check.l0 k (List.replicate ((x135002.length : Int) : Int).toNat 0) 0 x135000 x135001 x135002 x135003) else (none)) else (none))
def vivariumref11_Check.l0 : Nat → List Int → Int → Int → Int → List (S49) → Int → Option (Int)
  | 0, _, _, _, _, _, _ => none
  | k + 1, x3, x4, x135000, x135001, x135002, x135003 => if x4 < (x135002.length : Int) then (if 0 ≤ x4 then (if (((rd_T49 x135002 x4).f1).length : Int) = 0 then (if (wrap64 ((rd_T49 x135002 x4).f0)) ≥ x135000 then (some 110) else (vivariumref11_Check.l0 k x3 (wrap64 (x4 + 1)) x135000 x135001 x135002 x135003)) else (if ((rd_T49 x135002 x4).f0) = 0 then (vivariumref11_Check.j2 k x3 x4 ((((rd_T49 x135002 x4).f1).length : Int) != x135000) x135000 x135001 x135002 x135003 ((rd_T49 x135002 x4).f0) ((rd_T49 x135002 x4).f1)) else (vivariumref11_Check.j2 k x3 x4 true x135000 x135001 x135002 x135003 ((rd_T49 x135002 x4).f0) ((rd_T49 x135002 x4).f1)))) else (none)) else (if 0 ≤ x135003 then (if x135003 < (x3.length : Int) then (if (rd x3 x135003) = x135001 then (some 0) else (some 110)) else (none)) else (none))
def vivariumref11_Check.j2 : Nat → List Int → Int → Bool → Int → Int → List (S49) → Int → Int → List Int → Option (Int)
  | 0, _, _, _, _, _, _, _, _, _ => none
  | k + 1, x3, x4, x86, x135000, x135001, x135002, x135003, x141000, x141001 => if x86 = true then (some 110) else (vivariumref11_Check.l1 k x3 x4 0 x135000 x135001 x135002 x135003 x141000 x141001)
def vivariumref11_Check.l1 : Nat → List Int → Int → Int → Int → Int → List (S49) → Int → Int → List Int → Option (Int)
  | 0, _, _, _, _, _, _, _, _, _ => none
  | k + 1, x3, x4, x6, x135000, x135001, x135002, x135003, x141000, x141001 => if x6 < (x141001.length : Int) then (if 0 ≤ x6 then (if (rd x141001 x6) < 0 then (some 110) else (if (rd x141001 x6) ≥ x4 then (some 110) else (if 0 ≤ (rd x141001 x6) then (if (rd x141001 x6) < (x3.length : Int) then (if 0 < (x141001.length : Int) then (if 0 ≤ (mx (rd x141001 0) 0) then (if (mx (rd x141001 0) 0) < (x3.length : Int) then (if (rd x3 (rd x141001 x6)) = (rd x3 (mx (rd x141001 0) 0)) then (vivariumref11_Check.l1 k x3 x4 (wrap64 (x6 + 1)) x135000 x135001 x135002 x135003 x141000 x141001) else (some 110)) else (none)) else (none)) else (none)) else (none)) else (none)))) else (none)) else (if 0 < (x141001.length : Int) then (if 0 ≤ (rd x141001 0) then (if (rd x141001 0) < (x3.length : Int) then (if 0 ≤ x4 then (if x4 < (x3.length : Int) then (vivariumref11_Check.l0 k (x3.set (x4 : Int).toNat (wrap64 ((rd x3 (rd x141001 0)) + 1))) (wrap64 (x4 + 1)) x135000 x135001 x135002 x135003) else (none)) else (none)) else (none)) else (none)) else (none))
end
def vivariumref11_Check.f (k : Nat) (a0_0 : Int) (a0_1 : Int) (l0_2 : List (S49)) (a0_3 : Int) : Option (Int) := if a0_0 < 1 then (vivariumref11_Check.j0 k true a0_0 a0_1 l0_2 a0_3) else (if a0_0 > 256 then (vivariumref11_Check.j0 k true a0_0 a0_1 l0_2 a0_3) else (if a0_1 < 0 then (vivariumref11_Check.j0 k true a0_0 a0_1 l0_2 a0_3) else (if a0_1 > 16 then (vivariumref11_Check.j0 k true a0_0 a0_1 l0_2 a0_3) else (if (l0_2.length : Int) < 1 then (vivariumref11_Check.j0 k true a0_0 a0_1 l0_2 a0_3) else (if (l0_2.length : Int) > 65536 then (vivariumref11_Check.j0 k true a0_0 a0_1 l0_2 a0_3) else (if a0_3 < 0 then (vivariumref11_Check.j0 k true a0_0 a0_1 l0_2 a0_3) else (vivariumref11_Check.j0 k (decide (a0_3 ≥ (l0_2.length : Int))) a0_0 a0_1 l0_2 a0_3)))))))
set_option maxHeartbeats 8000000 in
set_option maxRecDepth 100000 in
theorem vivariumref11_Check.calls (k : Nat) (a0_0 : Int) (a0_1 : Int) (A0_2 : Option Addr) (c0_2 : Nat) (l0_2 : List (S49)) (a0_3 : Int) (r : Int) (w : World) (hr0_2 : Kd.C k49 w A0_2 l0_2.length l0_2) (hc0_2 : l0_2.length ≤ c0_2) (h : vivariumref11_Check.f k a0_0 a0_1 l0_2 a0_3 = some r) :
    Calls Tryd.prog 39 #[.agg #[.int .i64 a0_0, .int .i64 a0_1, .slice A0_2 l0_2.length c0_2, .int .i64 a0_3]] w fun e w' => e = .returned (.int .i64 r) ∧ Below w.heap.size w w' := by
  have hu24 := Tryd.underlying24
  have hu49 := Tryd.underlying49
  have HR0_2 := Aside0.mk hr0_2
  have HC0_2 := Aside0.mk hc0_2
  clear hr0_2 hc0_2
  have HB := Aside0.mk (Below.refl w.heap.size w)
  have H : (if a0_0 < 1 then (vivariumref11_Check.j0 k true a0_0 a0_1 l0_2 a0_3) else (if a0_0 > 256 then (vivariumref11_Check.j0 k true a0_0 a0_1 l0_2 a0_3) else (if a0_1 < 0 then (vivariumref11_Check.j0 k true a0_0 a0_1 l0_2 a0_3) else (if a0_1 > 16 then (vivariumref11_Check.j0 k true a0_0 a0_1 l0_2 a0_3) else (if (l0_2.length : Int) < 1 then (vivariumref11_Check.j0 k true a0_0 a0_1 l0_2 a0_3) else (if (l0_2.length : Int) > 65536 then (vivariumref11_Check.j0 k true a0_0 a0_1 l0_2 a0_3) else (if a0_3 < 0 then (vivariumref11_Check.j0 k true a0_0 a0_1 l0_2 a0_3) else (vivariumref11_Check.j0 k (decide (a0_3 ≥ (l0_2.length : Int))) a0_0 a0_1 l0_2 a0_3)))))))) = some r := h
  clear h
  have HC2 := Aside0.mk H
  clear H
  go_enter Tryd.func39, Tryd.ntmps39
  go_upto_region 1 with (first | ((with_reducible refine gate_dst (N := 1) rfl ?_); (try (refine gate_guard (by rfl) ?_; dsimp only)); refine box_event ?hg (N := 1) ?hd (cs := #[.int .i64 a0_0, .int .i64 a0_1, .slice A0_2 l0_2.length c0_2, .int .i64 a0_3]) (t := 24) ?hr ?_; (case hd => rfl); (case hg => rfl); (case hr => first | (go_simp; done) | (go_simp; rfl)); intro gb134 hg w3 hbox hb; have n0_ := Aside0.mk (below_step (by repeat (first | (with_reducible first | exact HB.out | apply below_alloc | apply pw_below_drewN | apply below_drew1) | exact HB.out)) hb); have n1_ := Aside0.mk (hbox); have n2_ := Aside0.mk ((by rw [hg]; exact (below_size (by repeat (first | (with_reducible first | exact HB.out | apply below_alloc | apply pw_below_drewN | apply below_drew1) | exact HB.out))) : w.heap.size ≤ gb134)); have n3_ := Aside0.mk ((by rw [hg]; exact (below_size (by repeat (first | (with_reducible first | exact HB.out | apply below_alloc | apply pw_below_drewN | apply below_drew1) | exact HB.out))) : w.heap.size ≤ gb134)); clear HB; have HB := n0_; have BK134 := n1_; have GW134 := n2_; have GE134 := n3_; clear n0_ n1_ n2_ n3_; clear hb hbox hg))
  repeat (go_quiet (first | ((with_reducible refine gate_dst (N := 1) rfl ?_); (try (refine gate_guard (by rfl) ?_; dsimp only)); refine box_event ?hg (N := 1) ?hd (cs := #[.int .i64 a0_0, .int .i64 a0_1, .slice A0_2 l0_2.length c0_2, .int .i64 a0_3]) (t := 24) ?hr ?_; (case hd => rfl); (case hg => rfl); (case hr => first | (go_simp; done) | (go_simp; rfl)); intro gb134 hg w3 hbox hb; have n0_ := Aside0.mk (below_step (by repeat (first | (with_reducible first | exact HB.out | apply below_alloc | apply pw_below_drewN | apply below_drew1) | exact HB.out)) hb); have n1_ := Aside0.mk (hbox); have n2_ := Aside0.mk ((by rw [hg]; exact (below_size (by repeat (first | (with_reducible first | exact HB.out | apply below_alloc | apply pw_below_drewN | apply below_drew1) | exact HB.out))) : w.heap.size ≤ gb134)); have n3_ := Aside0.mk ((by rw [hg]; exact (below_size (by repeat (first | (with_reducible first | exact HB.out | apply below_alloc | apply pw_below_drewN | apply below_drew1) | exact HB.out))) : w.heap.size ≤ gb134)); clear HB; have HB := n0_; have BK134 := n1_; have GW134 := n2_; have GE134 := n3_; clear n0_ n1_ n2_ n3_; clear hb hbox hg)); go_upto_region 1 with (first | ((with_reducible refine gate_dst (N := 1) rfl ?_); (try (refine gate_guard (by rfl) ?_; dsimp only)); refine box_event ?hg (N := 1) ?hd (cs := #[.int .i64 a0_0, .int .i64 a0_1, .slice A0_2 l0_2.length c0_2, .int .i64 a0_3]) (t := 24) ?hr ?_; (case hd => rfl); (case hg => rfl); (case hr => first | (go_simp; done) | (go_simp; rfl)); intro gb134 hg w3 hbox hb; have n0_ := Aside0.mk (below_step (by repeat (first | (with_reducible first | exact HB.out | apply below_alloc | apply pw_below_drewN | apply below_drew1) | exact HB.out)) hb); have n1_ := Aside0.mk (hbox); have n2_ := Aside0.mk ((by rw [hg]; exact (below_size (by repeat (first | (with_reducible first | exact HB.out | apply below_alloc | apply pw_below_drewN | apply below_drew1) | exact HB.out))) : w.heap.size ≤ gb134)); have n3_ := Aside0.mk ((by rw [hg]; exact (below_size (by repeat (first | (with_reducible first | exact HB.out | apply below_alloc | apply pw_below_drewN | apply below_drew1) | exact HB.out))) : w.heap.size ≤ gb134)); clear HB; have HB := n0_; have BK134 := n1_; have GW134 := n2_; have GE134 := n3_; clear n0_ n1_ n2_ n3_; clear hb hbox hg)))
  (try simp only [Act.put, List.setIfInBounds_toArray, List.set_cons_zero, List.set_cons_succ])
  go_cut [49] (fun v49 wc => ∃ (kq : Nat) (x49_1 : Bool), v49 = .bool x49_1 ∧ Aside0 (vivariumref11_Check.j0 kq x49_1 a0_0 a0_1 l0_2 a0_3 = some r) ∧ Aside0 (kq ≤ k) ∧ Aside0 (wc.heap[gb134]? = some (.cells #[.int .i64 a0_0, .int .i64 a0_1, (.slice A0_2 l0_2.length c0_2), .int .i64 a0_3] 24 (0, 0))) ∧ Aside0 (Below w.heap.size w wc))
  case first =>
    have H := HC2.out
    clear HC2
    by_cases c4 : a0_0 < 1
    · rw [if_pos c4] at H
      have c4b0 : decide (a0_0 < 1) = true := decide_eq_true c4
      clear c4
      (first | rw [c4b0] | (simp only [i64_w, i32_w]; rw [c4b0]) | skip)
      have H' := Aside0.mk H
      clear H
      have hcz5_0 : w3.cell? ⟨gb134, 0, none⟩ = some (.int .i64 a0_0) := (blk_cell BK134.out 0).trans rfl
      have hcz5_1 : w3.cell? ⟨gb134, 1, none⟩ = some (.int .i64 a0_1) := (blk_cell BK134.out 1).trans rfl
      have hcz5_2 : w3.cell? ⟨gb134, 2, none⟩ = some (.slice A0_2 l0_2.length c0_2) := (blk_cell BK134.out 2).trans rfl
      have hcz5_3 : w3.cell? ⟨gb134, 3, none⟩ = some (.int .i64 a0_3) := (blk_cell BK134.out 3).trans rfl
      have hfz5_0 := blk_frozen BK134.out 0
      have hfz5_1 := blk_frozen BK134.out 1
      have hfz5_2 := blk_frozen BK134.out 2
      have hfz5_3 := blk_frozen BK134.out 3
      go_wp2
      repeat (go_quiet (fail); try go_wp2)
      go_meet
      case rel => exact ⟨_, (true), (by first | rfl | (simp; done) | (simp [*]; done) | (simp [wrap64]; done)), H', ⟨by first | omega | exact Nat.le_refl _⟩, ⟨by (with_reducible repeat (first | refine blk_drewN ?_ _ | refine blk_drew ?_ | refine blk_alloc ?_ _)); exact BK134.out⟩, ⟨by repeat (first | (with_reducible first | exact HB.out | apply below_alloc | apply pw_below_drewN | apply below_drew1 | refine below_set ?_ GE134.out) | exact HB.out)⟩⟩
    · rw [if_neg c4] at H
      have c4b0 : decide (a0_0 < 1) = false := decide_eq_false c4
      clear c4
      (first | rw [c4b0] | (simp only [i64_w, i32_w]; rw [c4b0]) | skip)
      by_cases c6 : a0_0 > 256
      · rw [if_pos c6] at H
        have c6b0 : decide (256 < a0_0) = true := decide_eq_true c6
        clear c6
        have H' := Aside0.mk H
        clear H
        have hcz7_0 : w3.cell? ⟨gb134, 0, none⟩ = some (.int .i64 a0_0) := (blk_cell BK134.out 0).trans rfl
        have hcz7_1 : w3.cell? ⟨gb134, 1, none⟩ = some (.int .i64 a0_1) := (blk_cell BK134.out 1).trans rfl
        have hcz7_2 : w3.cell? ⟨gb134, 2, none⟩ = some (.slice A0_2 l0_2.length c0_2) := (blk_cell BK134.out 2).trans rfl
        have hcz7_3 : w3.cell? ⟨gb134, 3, none⟩ = some (.int .i64 a0_3) := (blk_cell BK134.out 3).trans rfl
        have hfz7_0 := blk_frozen BK134.out 0
        have hfz7_1 := blk_frozen BK134.out 1
        have hfz7_2 := blk_frozen BK134.out 2
        have hfz7_3 := blk_frozen BK134.out 3
        go_wp2
        repeat (go_quiet (fail); try go_wp2)
        go_meet
        case rel => exact ⟨_, (true), (by first | rfl | (simp; done) | (simp [*]; done) | (simp [wrap64]; done)), H', ⟨by first | omega | exact Nat.le_refl _⟩, ⟨by (with_reducible repeat (first | refine blk_drewN ?_ _ | refine blk_drew ?_ | refine blk_alloc ?_ _)); exact BK134.out⟩, ⟨by repeat (first | (with_reducible first | exact HB.out | apply below_alloc | apply pw_below_drewN | apply below_drew1 | refine below_set ?_ GE134.out) | exact HB.out)⟩⟩
      · rw [if_neg c6] at H
        have c6b0 : decide (256 < a0_0) = false := decide_eq_false c6
        clear c6
        by_cases c8 : a0_1 < 0
        · rw [if_pos c8] at H
          have c8b0 : decide (a0_1 < 0) = true := decide_eq_true c8
          clear c8
          have H' := Aside0.mk H
          clear H
          have hcz9_0 : w3.cell? ⟨gb134, 0, none⟩ = some (.int .i64 a0_0) := (blk_cell BK134.out 0).trans rfl
          have hcz9_1 : w3.cell? ⟨gb134, 1, none⟩ = some (.int .i64 a0_1) := (blk_cell BK134.out 1).trans rfl
          have hcz9_2 : w3.cell? ⟨gb134, 2, none⟩ = some (.slice A0_2 l0_2.length c0_2) := (blk_cell BK134.out 2).trans rfl
          have hcz9_3 : w3.cell? ⟨gb134, 3, none⟩ = some (.int .i64 a0_3) := (blk_cell BK134.out 3).trans rfl
          have hfz9_0 := blk_frozen BK134.out 0
          have hfz9_1 := blk_frozen BK134.out 1
          have hfz9_2 := blk_frozen BK134.out 2
          have hfz9_3 := blk_frozen BK134.out 3
          go_wp2
          repeat (go_quiet (fail); try go_wp2)
          go_meet
          case rel => exact ⟨_, (true), (by first | rfl | (simp; done) | (simp [*]; done) | (simp [wrap64]; done)), H', ⟨by first | omega | exact Nat.le_refl _⟩, ⟨by (with_reducible repeat (first | refine blk_drewN ?_ _ | refine blk_drew ?_ | refine blk_alloc ?_ _)); exact BK134.out⟩, ⟨by repeat (first | (with_reducible first | exact HB.out | apply below_alloc | apply pw_below_drewN | apply below_drew1 | refine below_set ?_ GE134.out) | exact HB.out)⟩⟩
        · rw [if_neg c8] at H
          have c8b0 : decide (a0_1 < 0) = false := decide_eq_false c8
          clear c8
          by_cases c10 : a0_1 > 16
          · rw [if_pos c10] at H
            have c10b0 : decide (16 < a0_1) = true := decide_eq_true c10
            clear c10
            have H' := Aside0.mk H
            clear H
            have hcz11_0 : w3.cell? ⟨gb134, 0, none⟩ = some (.int .i64 a0_0) := (blk_cell BK134.out 0).trans rfl
            have hcz11_1 : w3.cell? ⟨gb134, 1, none⟩ = some (.int .i64 a0_1) := (blk_cell BK134.out 1).trans rfl
            have hcz11_2 : w3.cell? ⟨gb134, 2, none⟩ = some (.slice A0_2 l0_2.length c0_2) := (blk_cell BK134.out 2).trans rfl
            have hcz11_3 : w3.cell? ⟨gb134, 3, none⟩ = some (.int .i64 a0_3) := (blk_cell BK134.out 3).trans rfl
            have hfz11_0 := blk_frozen BK134.out 0
            have hfz11_1 := blk_frozen BK134.out 1
            have hfz11_2 := blk_frozen BK134.out 2
            have hfz11_3 := blk_frozen BK134.out 3
            go_wp2
            repeat (go_quiet (fail); try go_wp2)
            go_meet
            case rel => exact ⟨_, (true), (by first | rfl | (simp; done) | (simp [*]; done) | (simp [wrap64]; done)), H', ⟨by first | omega | exact Nat.le_refl _⟩, ⟨by (with_reducible repeat (first | refine blk_drewN ?_ _ | refine blk_drew ?_ | refine blk_alloc ?_ _)); exact BK134.out⟩, ⟨by repeat (first | (with_reducible first | exact HB.out | apply below_alloc | apply pw_below_drewN | apply below_drew1 | refine below_set ?_ GE134.out) | exact HB.out)⟩⟩
          · rw [if_neg c10] at H
            have c10b0 : decide (16 < a0_1) = false := decide_eq_false c10
            clear c10
            by_cases c12 : (l0_2.length : Int) < 1
            · rw [if_pos c12] at H
              have c12b0 : decide ((l0_2.length : Int) < 1) = true := decide_eq_true c12
              have c12b1 : decide (l0_2.length < 1) = true := decide_eq_true (by omega)
              clear c12
              have H' := Aside0.mk H
              clear H
              have hcz13_0 : w3.cell? ⟨gb134, 0, none⟩ = some (.int .i64 a0_0) := (blk_cell BK134.out 0).trans rfl
              have hcz13_1 : w3.cell? ⟨gb134, 1, none⟩ = some (.int .i64 a0_1) := (blk_cell BK134.out 1).trans rfl
              have hcz13_2 : w3.cell? ⟨gb134, 2, none⟩ = some (.slice A0_2 l0_2.length c0_2) := (blk_cell BK134.out 2).trans rfl
              have hcz13_3 : w3.cell? ⟨gb134, 3, none⟩ = some (.int .i64 a0_3) := (blk_cell BK134.out 3).trans rfl
              have hfz13_0 := blk_frozen BK134.out 0
              have hfz13_1 := blk_frozen BK134.out 1
              have hfz13_2 := blk_frozen BK134.out 2
              have hfz13_3 := blk_frozen BK134.out 3
              go_wp2
              repeat (go_quiet (fail); try go_wp2)
              go_meet
              case rel => exact ⟨_, (true), (by first | rfl | (simp; done) | (simp [*]; done) | (simp [wrap64]; done)), H', ⟨by first | omega | exact Nat.le_refl _⟩, ⟨by (with_reducible repeat (first | refine blk_drewN ?_ _ | refine blk_drew ?_ | refine blk_alloc ?_ _)); exact BK134.out⟩, ⟨by repeat (first | (with_reducible first | exact HB.out | apply below_alloc | apply pw_below_drewN | apply below_drew1 | refine below_set ?_ GE134.out) | exact HB.out)⟩⟩
            · rw [if_neg c12] at H
              have c12b0 : decide ((l0_2.length : Int) < 1) = false := decide_eq_false c12
              have c12b1 : decide (l0_2.length < 1) = false := decide_eq_false (by omega)
              clear c12
              by_cases c14 : (l0_2.length : Int) > 65536
              · rw [if_pos c14] at H
                have c14b0 : decide (65536 < (l0_2.length : Int)) = true := decide_eq_true c14
                have c14b1 : decide (65536 < l0_2.length) = true := decide_eq_true (by omega)
                clear c14
                have H' := Aside0.mk H
                clear H
                have hcz15_0 : w3.cell? ⟨gb134, 0, none⟩ = some (.int .i64 a0_0) := (blk_cell BK134.out 0).trans rfl
                have hcz15_1 : w3.cell? ⟨gb134, 1, none⟩ = some (.int .i64 a0_1) := (blk_cell BK134.out 1).trans rfl
                have hcz15_2 : w3.cell? ⟨gb134, 2, none⟩ = some (.slice A0_2 l0_2.length c0_2) := (blk_cell BK134.out 2).trans rfl
                have hcz15_3 : w3.cell? ⟨gb134, 3, none⟩ = some (.int .i64 a0_3) := (blk_cell BK134.out 3).trans rfl
                have hfz15_0 := blk_frozen BK134.out 0
                have hfz15_1 := blk_frozen BK134.out 1
                have hfz15_2 := blk_frozen BK134.out 2
                have hfz15_3 := blk_frozen BK134.out 3
                go_wp2
                repeat (go_quiet (fail); try go_wp2)
                go_meet
                case rel => exact ⟨_, (true), (by first | rfl | (simp; done) | (simp [*]; done) | (simp [wrap64]; done)), H', ⟨by first | omega | exact Nat.le_refl _⟩, ⟨by (with_reducible repeat (first | refine blk_drewN ?_ _ | refine blk_drew ?_ | refine blk_alloc ?_ _)); exact BK134.out⟩, ⟨by repeat (first | (with_reducible first | exact HB.out | apply below_alloc | apply pw_below_drewN | apply below_drew1 | refine below_set ?_ GE134.out) | exact HB.out)⟩⟩
              · rw [if_neg c14] at H
                have c14b0 : decide (65536 < (l0_2.length : Int)) = false := decide_eq_false c14
                have c14b1 : decide (65536 < l0_2.length) = false := decide_eq_false (by omega)
                clear c14
                by_cases c16 : a0_3 < 0
                · rw [if_pos c16] at H
                  have c16b0 : decide (a0_3 < 0) = true := decide_eq_true c16
                  clear c16
                  have H' := Aside0.mk H
                  clear H
                  have hcz17_0 : w3.cell? ⟨gb134, 0, none⟩ = some (.int .i64 a0_0) := (blk_cell BK134.out 0).trans rfl
                  have hcz17_1 : w3.cell? ⟨gb134, 1, none⟩ = some (.int .i64 a0_1) := (blk_cell BK134.out 1).trans rfl
                  have hcz17_2 : w3.cell? ⟨gb134, 2, none⟩ = some (.slice A0_2 l0_2.length c0_2) := (blk_cell BK134.out 2).trans rfl
                  have hcz17_3 : w3.cell? ⟨gb134, 3, none⟩ = some (.int .i64 a0_3) := (blk_cell BK134.out 3).trans rfl
                  have hfz17_0 := blk_frozen BK134.out 0
                  have hfz17_1 := blk_frozen BK134.out 1
                  have hfz17_2 := blk_frozen BK134.out 2
                  have hfz17_3 := blk_frozen BK134.out 3
                  go_wp2
                  repeat (go_quiet (fail); try go_wp2)
                  go_meet
                  case rel => exact ⟨_, (true), (by first | rfl | (simp; done) | (simp [*]; done) | (simp [wrap64]; done)), H', ⟨by first | omega | exact Nat.le_refl _⟩, ⟨by (with_reducible repeat (first | refine blk_drewN ?_ _ | refine blk_drew ?_ | refine blk_alloc ?_ _)); exact BK134.out⟩, ⟨by repeat (first | (with_reducible first | exact HB.out | apply below_alloc | apply pw_below_drewN | apply below_drew1 | refine below_set ?_ GE134.out) | exact HB.out)⟩⟩
                · rw [if_neg c16] at H
                  have c16b0 : decide (a0_3 < 0) = false := decide_eq_false c16
                  clear c16
                  have H' := Aside0.mk H
                  clear H
                  have hcz18_0 : w3.cell? ⟨gb134, 0, none⟩ = some (.int .i64 a0_0) := (blk_cell BK134.out 0).trans rfl
                  have hcz18_1 : w3.cell? ⟨gb134, 1, none⟩ = some (.int .i64 a0_1) := (blk_cell BK134.out 1).trans rfl
                  have hcz18_2 : w3.cell? ⟨gb134, 2, none⟩ = some (.slice A0_2 l0_2.length c0_2) := (blk_cell BK134.out 2).trans rfl
                  have hcz18_3 : w3.cell? ⟨gb134, 3, none⟩ = some (.int .i64 a0_3) := (blk_cell BK134.out 3).trans rfl
                  have hfz18_0 := blk_frozen BK134.out 0
                  have hfz18_1 := blk_frozen BK134.out 1
                  have hfz18_2 := blk_frozen BK134.out 2
                  have hfz18_3 := blk_frozen BK134.out 3
                  go_wp2
                  repeat (go_quiet (fail); try go_wp2)
                  go_meet
                  case rel => exact ⟨_, (decide (a0_3 ≥ (l0_2.length : Int))), (by first | rfl | (simp; done) | (simp [*]; done) | (simp [wrap64]; done)), H', ⟨by first | omega | exact Nat.le_refl _⟩, ⟨by (with_reducible repeat (first | refine blk_drewN ?_ _ | refine blk_drew ?_ | refine blk_alloc ?_ _)); exact BK134.out⟩, ⟨by repeat (first | (with_reducible first | exact HB.out | apply below_alloc | apply pw_below_drewN | apply below_drew1 | refine below_set ?_ GE134.out) | exact HB.out)⟩⟩
  case rest =>
    clear HC2
    try clear c1
    try clear p2
    try clear c3
    try clear c4
    try clear c4b0
    try clear c6
    try clear c6b0
    try clear c8
    try clear c8b0
    try clear c10
    try clear c10b0
    try clear c12
    try clear c12b0
    try clear c12b1
    try clear c14
    try clear c14b0
    try clear c14b1
    try clear c16
    try clear c16b0
    try clear hcz11_0
    try clear hcz11_1
    try clear hcz11_2
    try clear hcz11_3
    try clear hcz13_0
    try clear hcz13_1
    try clear hcz13_2
    try clear hcz13_3
    try clear hcz15_0
    try clear hcz15_1
    try clear hcz15_2
    try clear hcz15_3
    try clear hcz17_0
    try clear hcz17_1
    try clear hcz17_2
    try clear hcz17_3
    try clear hcz18_0
    try clear hcz18_1
    try clear hcz18_2
    try clear hcz18_3
    try clear hcz5_0
    try clear hcz5_1
    try clear hcz5_2
    try clear hcz5_3
    try clear hcz7_0
    try clear hcz7_1
    try clear hcz7_2
    try clear hcz7_3
    try clear hcz9_0
    try clear hcz9_1
    try clear hcz9_2
    try clear hcz9_3
    try clear hfz11_0
    try clear hfz11_1
    try clear hfz11_2
    try clear hfz11_3
    try clear hfz13_0
    try clear hfz13_1
    try clear hfz13_2
    try clear hfz13_3
    try clear hfz15_0
    try clear hfz15_1
    try clear hfz15_2
    try clear hfz15_3
    try clear hfz17_0
    try clear hfz17_1
    try clear hfz17_2
    try clear hfz17_3
    try clear hfz18_0
    try clear hfz18_1
    try clear hfz18_2
    try clear hfz18_3
    try clear hfz5_0
    try clear hfz5_1
    try clear hfz5_2
    try clear hfz5_3
    try clear hfz7_0
    try clear hfz7_1
    try clear hfz7_2
    try clear hfz7_3
    try clear hfz9_0
    try clear hfz9_1
    try clear hfz9_2
    try clear hfz9_3
    obtain ⟨kq, x49_1, rfl, HA, HJ1, BK134, HB⟩ := hcut
    cases kq with
    | zero => exact absurd HA.out (by simp [vivariumref11_Check.j0])
    | succ kj1 =>
      have H := HA.out
      clear HA
      simp only [vivariumref11_Check.j0] at H
      by_cases c19 : x49_1 = true
      · subst c19
        have H1 : (some 110) = some r := by rw [if_pos rfl] at H; exact H
        clear H
        have H := H1
        clear H1
        obtain rfl := Option.some.inj H
        go_wp2
        repeat (go_quiet (fail); try go_wp2)
        go_ret
        exact ⟨by first | rfl | (simp [errW_none, errW_some] <;> rfl) | (simp [*, errW_none, errW_some] <;> rfl), by repeat (first | (with_reducible first | exact HB.out | apply below_alloc | apply pw_below_drewN | apply below_drew1 | refine below_set ?_ GE134.out) | exact HB.out)⟩
      · replace c19 := Bool.eq_false_iff.mpr c19
        subst c19
        have H1 : (if 0 ≤ (l0_2.length : Int) then (if ((l0_2.length : Int) : Int).toNat ≤ 35184372088832 then (vivariumref11_Check.l0 kj1 (List.replicate ((l0_2.length : Int) : Int).toNat 0) 0 a0_0 a0_1 l0_2 a0_3) else (none)) else (none)) = some r := by rw [if_neg (show ¬ (false = true) by decide)] at H; exact H
        clear H
        have H := H1
        clear H1
        by_cases c20 : 0 ≤ (l0_2.length : Int)
        · rw [if_pos c20] at H
          have c20b0 := eq_true c20
          have c20b1 : decide (0 ≤ (l0_2.length : Int)) = true := decide_eq_true c20
          clear c20
          by_cases c21 : ((l0_2.length : Int) : Int).toNat ≤ 35184372088832
          · rw [if_pos c21] at H
            have c21b0 := eq_true c21
            have c21b1 : decide (((l0_2.length : Int) : Int).toNat ≤ 35184372088832) = true := decide_eq_true c21
            clear c21
            obtain ⟨y135, hy135⟩ : ∃ y_ : List Int, y_ = (List.replicate ((l0_2.length : Int) : Int).toNat 0) := ⟨_, rfl⟩
            replace H : (vivariumref11_Check.l0 kj1 y135 0 a0_0 a0_1 l0_2 a0_3) = some r := by first | (rw [hy135]; with_reducible exact H) | (have H2_ := (Option.bind_some _ _).symm.trans H; rw [hy135]; with_reducible exact H2_) | (have H2_ := (Option.bind_some _ _).symm.trans H; with_reducible exact H2_) | with_reducible exact H | (rw [hy135]; exact H) | exact H
            have Ny135 := Aside0.mk hy135
            clear hy135
            have H' := Aside0.mk H
            clear H
            have hcz22_0 : wc.cell? ⟨gb134, 0, none⟩ = some (.int .i64 a0_0) := (blk_cell BK134.out 0).trans rfl
            have hcz22_1 : wc.cell? ⟨gb134, 1, none⟩ = some (.int .i64 a0_1) := (blk_cell BK134.out 1).trans rfl
            have hcz22_2 : wc.cell? ⟨gb134, 2, none⟩ = some (.slice A0_2 l0_2.length c0_2) := (blk_cell BK134.out 2).trans rfl
            have hcz22_3 : wc.cell? ⟨gb134, 3, none⟩ = some (.int .i64 a0_3) := (blk_cell BK134.out 3).trans rfl
            have hfz22_0 := blk_frozen BK134.out 0
            have hfz22_1 := blk_frozen BK134.out 1
            have hfz22_2 := blk_frozen BK134.out 2
            have hfz22_3 := blk_frozen BK134.out 3
            go_wp2_with (first | ((with_reducible refine gate_dst (N := 53) rfl ?_); (try (refine gate_guard (by rfl) ?_; dsimp only)); refine Kd.R_make (Kd.int .i64) _ 3 rfl (N := 53) rfl 47 _ _ rfl (l0_2.length : Int) rfl rfl Tryd.underlying47 (.int .i64 0) 8 info3 rfl (by decide) (by omega) 0 (ok := fun _ => True) (okp := fun _ => True) rfl (fun _ hk => hk) trivial (of_decide_eq_true (by first | (with_reducible assumption) | assumption)) (Nat.le_trans (Nat.mul_le_mul_right _ (of_decide_eq_true (by first | (with_reducible assumption) | assumption) : (l0_2.length : Int).toNat ≤ 35184372088832)) (by omega)) (Below.refl _ _) (Nat.le_refl _) ?_; intro v136 w23 ho24 hb hg_ hnew_; clear hg_ hnew_; (first | rw [← Ny135.out] at ho24 | (simp only [Int.reduceToNat] at ho24; rw [← Ny135.out] at ho24)); have n0_ := Aside0.mk (Kd.R_lower ho24 (below_size (by repeat (first | (with_reducible first | exact HB.out | apply below_alloc | apply pw_below_drewN | apply below_drew1 | refine below_set ?_ GE134.out) | exact HB.out)))); have n1_ := Aside0.mk (blk_below (g := gb134) (o := .cells #[.int .i64 a0_0, .int .i64 a0_1, .slice A0_2 l0_2.length c0_2, .int .i64 a0_3] 24 (0, 0)) (by (with_reducible repeat (first | refine blk_drewN ?_ _ | refine blk_drew ?_ | refine blk_alloc ?_ _)); exact BK134.out) hb); have n2_ := Aside0.mk (below_step (by repeat (first | (with_reducible first | exact HB.out | apply below_alloc | apply pw_below_drewN | apply below_drew1 | refine below_set ?_ GE134.out) | exact HB.out)) hb); clear BK134; clear HB; have HO137 := n0_; have BK134 := n1_; have HB := n2_; clear n0_ n1_ n2_; clear hb ho24))
            repeat (go_quiet (first | ((with_reducible refine gate_dst (N := 53) rfl ?_); (try (refine gate_guard (by rfl) ?_; dsimp only)); refine Kd.R_make (Kd.int .i64) _ 3 rfl (N := 53) rfl 47 _ _ rfl (l0_2.length : Int) rfl rfl Tryd.underlying47 (.int .i64 0) 8 info3 rfl (by decide) (by omega) 0 (ok := fun _ => True) (okp := fun _ => True) rfl (fun _ hk => hk) trivial (of_decide_eq_true (by first | (with_reducible assumption) | assumption)) (Nat.le_trans (Nat.mul_le_mul_right _ (of_decide_eq_true (by first | (with_reducible assumption) | assumption) : (l0_2.length : Int).toNat ≤ 35184372088832)) (by omega)) (Below.refl _ _) (Nat.le_refl _) ?_; intro v136 w23 ho24 hb hg_ hnew_; clear hg_ hnew_; (first | rw [← Ny135.out] at ho24 | (simp only [Int.reduceToNat] at ho24; rw [← Ny135.out] at ho24)); have n0_ := Aside0.mk (Kd.R_lower ho24 (below_size (by repeat (first | (with_reducible first | exact HB.out | apply below_alloc | apply pw_below_drewN | apply below_drew1 | refine below_set ?_ GE134.out) | exact HB.out)))); have n1_ := Aside0.mk (blk_below (g := gb134) (o := .cells #[.int .i64 a0_0, .int .i64 a0_1, .slice A0_2 l0_2.length c0_2, .int .i64 a0_3] 24 (0, 0)) (by (with_reducible repeat (first | refine blk_drewN ?_ _ | refine blk_drew ?_ | refine blk_alloc ?_ _)); exact BK134.out) hb); have n2_ := Aside0.mk (below_step (by repeat (first | (with_reducible first | exact HB.out | apply below_alloc | apply pw_below_drewN | apply below_drew1 | refine below_set ?_ GE134.out) | exact HB.out)) hb); clear BK134; clear HB; have HO137 := n0_; have BK134 := n1_; have HB := n2_; clear n0_ n1_ n2_; clear hb ho24)); try go_wp2_with (first | ((with_reducible refine gate_dst (N := 53) rfl ?_); (try (refine gate_guard (by rfl) ?_; dsimp only)); refine Kd.R_make (Kd.int .i64) _ 3 rfl (N := 53) rfl 47 _ _ rfl (l0_2.length : Int) rfl rfl Tryd.underlying47 (.int .i64 0) 8 info3 rfl (by decide) (by omega) 0 (ok := fun _ => True) (okp := fun _ => True) rfl (fun _ hk => hk) trivial (of_decide_eq_true (by first | (with_reducible assumption) | assumption)) (Nat.le_trans (Nat.mul_le_mul_right _ (of_decide_eq_true (by first | (with_reducible assumption) | assumption) : (l0_2.length : Int).toNat ≤ 35184372088832)) (by omega)) (Below.refl _ _) (Nat.le_refl _) ?_; intro v136 w23 ho24 hb hg_ hnew_; clear hg_ hnew_; (first | rw [← Ny135.out] at ho24 | (simp only [Int.reduceToNat] at ho24; rw [← Ny135.out] at ho24)); have n0_ := Aside0.mk (Kd.R_lower ho24 (below_size (by repeat (first | (with_reducible first | exact HB.out | apply below_alloc | apply pw_below_drewN | apply below_drew1 | refine below_set ?_ GE134.out) | exact HB.out)))); have n1_ := Aside0.mk (blk_below (g := gb134) (o := .cells #[.int .i64 a0_0, .int .i64 a0_1, .slice A0_2 l0_2.length c0_2, .int .i64 a0_3] 24 (0, 0)) (by (with_reducible repeat (first | refine blk_drewN ?_ _ | refine blk_drew ?_ | refine blk_alloc ?_ _)); exact BK134.out) hb); have n2_ := Aside0.mk (below_step (by repeat (first | (with_reducible first | exact HB.out | apply below_alloc | apply pw_below_drewN | apply below_drew1 | refine below_set ?_ GE134.out) | exact HB.out)) hb); clear BK134; clear HB; have HO137 := n0_; have BK134 := n1_; have HB := n2_; clear n0_ n1_ n2_; clear hb ho24)))
            go_loopg [4] kj1 (fun kq v4 w' => ∃ (x3_2 : List Int) (x4_2 : Int), v4 = .int .i64 x4_2 ∧ Aside0 (vivariumref11_Check.l0 kq x3_2 x4_2 a0_0 a0_1 l0_2 a0_3 = some r) ∧ Aside0 (kq ≤ kj1) ∧ Aside0 (Kd.R (Kd.int .i64) 3 w' w.heap.size (fun _ => True) v136 x3_2) ∧ Aside0 (w'.heap[gb134]? = some (.cells #[.int .i64 a0_0, .int .i64 a0_1, (.slice A0_2 l0_2.length c0_2), .int .i64 a0_3] 24 (0, 0))) ∧ Aside0 (Below w.heap.size w w'))
            case atStart => exact ⟨(y135), (0), (by first | rfl | (simp; done) | (simp [*]; done) | (simp [wrap64]; done)), H', ⟨Nat.le_refl _⟩, ⟨by (with_reducible repeat (first | apply Kd.R_alloc | apply Kd.R_drewN | apply Kd.R_drew)); exact HO137.out⟩, ⟨by (with_reducible repeat (first | refine blk_drewN ?_ _ | refine blk_drew ?_ | refine blk_alloc ?_ _)); exact BK134.out⟩, ⟨by repeat (first | (with_reducible first | exact HB.out | apply below_alloc | apply pw_below_drewN | apply below_drew1 | refine below_set ?_ GE134.out) | exact HB.out)⟩⟩
            case round =>
              clear H'
              try clear c1
              try clear c2
              try clear p2
              try clear c3
              try clear c4
              try clear c4b0
              try clear c6
              try clear c6b0
              try clear c8
              try clear c8b0
              try clear c10
              try clear c10b0
              try clear c12
              try clear c12b0
              try clear c12b1
              try clear c14
              try clear c14b0
              try clear c14b1
              try clear c16
              try clear c16b0
              try clear c19
              try clear c20
              try clear c20b0
              try clear c20b1
              try clear c21
              try clear c21b0
              try clear c21b1
              try clear hcz11_0
              try clear hcz11_1
              try clear hcz11_2
              try clear hcz11_3
              try clear hcz13_0
              try clear hcz13_1
              try clear hcz13_2
              try clear hcz13_3
              try clear hcz15_0
              try clear hcz15_1
              try clear hcz15_2
              try clear hcz15_3
              try clear hcz17_0
              try clear hcz17_1
              try clear hcz17_2
              try clear hcz17_3
              try clear hcz18_0
              try clear hcz18_1
              try clear hcz18_2
              try clear hcz18_3
              try clear hcz22_0
              try clear hcz22_1
              try clear hcz22_2
              try clear hcz22_3
              try clear hcz5_0
              try clear hcz5_1
              try clear hcz5_2
              try clear hcz5_3
              try clear hcz7_0
              try clear hcz7_1
              try clear hcz7_2
              try clear hcz7_3
              try clear hcz9_0
              try clear hcz9_1
              try clear hcz9_2
              try clear hcz9_3
              try clear hfz11_0
              try clear hfz11_1
              try clear hfz11_2
              try clear hfz11_3
              try clear hfz13_0
              try clear hfz13_1
              try clear hfz13_2
              try clear hfz13_3
              try clear hfz15_0
              try clear hfz15_1
              try clear hfz15_2
              try clear hfz15_3
              try clear hfz17_0
              try clear hfz17_1
              try clear hfz17_2
              try clear hfz17_3
              try clear hfz18_0
              try clear hfz18_1
              try clear hfz18_2
              try clear hfz18_3
              try clear hfz22_0
              try clear hfz22_1
              try clear hfz22_2
              try clear hfz22_3
              try clear hfz5_0
              try clear hfz5_1
              try clear hfz5_2
              try clear hfz5_3
              try clear hfz7_0
              try clear hfz7_1
              try clear hfz7_2
              try clear hfz7_3
              try clear hfz9_0
              try clear hfz9_1
              try clear hfz9_2
              try clear hfz9_3
              try clear p2
              obtain ⟨x3_2, x4_2, rfl, HA, HK2, HO_3, BK134, HB⟩ := hrel
              cases gk with
              | zero => exact absurd HA.out (by simp [vivariumref11_Check.l0])
              | succ k2 =>
                have H := HA.out
                clear HA
                simp only [vivariumref11_Check.l0] at H
                by_cases c25 : x4_2 < (l0_2.length : Int)
                · rw [if_pos c25] at H
                  have c25b0 : decide (x4_2 < (l0_2.length : Int)) = true := decide_eq_true c25
                  clear c25
                  by_cases c26 : 0 ≤ x4_2
                  · rw [if_pos c26] at H
                    have c26b0 : decide (0 ≤ x4_2) = true := decide_eq_true c26
                    clear c26
                    by_cases c27 : (((rd_T49 l0_2 x4_2).f1).length : Int) = 0
                    · rw [if_pos c27] at H
                      have c27b0 : ((((rd_T49 l0_2 x4_2).f1).length : Int) == 0) = true := beq_iff_eq.mpr c27
                      have c27b1 : ((((rd_T49 l0_2 x4_2).f1).length : Int) != 0) = false := bne_eq_false_iff_eq.mpr c27
                      clear c27
                      by_cases c28 : (wrap64 ((rd_T49 l0_2 x4_2).f0)) ≥ a0_0
                      · rw [if_pos c28] at H
                        have c28b0 : decide (a0_0 ≤ (wrap64 ((rd_T49 l0_2 x4_2).f0))) = true := decide_eq_true c28
                        clear c28
                        obtain rfl := Option.some.inj H
                        have hcz29_0 : wr.cell? ⟨gb134, 0, none⟩ = some (.int .i64 a0_0) := (blk_cell BK134.out 0).trans rfl
                        have hcz29_1 : wr.cell? ⟨gb134, 1, none⟩ = some (.int .i64 a0_1) := (blk_cell BK134.out 1).trans rfl
                        have hcz29_2 : wr.cell? ⟨gb134, 2, none⟩ = some (.slice A0_2 l0_2.length c0_2) := (blk_cell BK134.out 2).trans rfl
                        have hcz29_3 : wr.cell? ⟨gb134, 3, none⟩ = some (.int .i64 a0_3) := (blk_cell BK134.out 3).trans rfl
                        have hfz29_0 := blk_frozen BK134.out 0
                        have hfz29_1 := blk_frozen BK134.out 1
                        have hfz29_2 := blk_frozen BK134.out 2
                        have hfz29_3 := blk_frozen BK134.out 3
                        have p139 : 0 ≤ (x4_2 : Int) := of_decide_eq_true (by first | (with_reducible assumption) | assumption)
                        have q139 : x4_2 < (l0_2.length : Int) := of_decide_eq_true (by first | (with_reducible assumption) | assumption)
                        obtain ⟨ad139, A139_1, c139_1, e139, hx139_0, hx139_1, hl139_1, hi139_1⟩ := at_T49 HR0_2.out x4_2 p139 q139
                        cases e139
                        replace hx139_0 := (HB.out.cell (World.block_lt_of_cell? w _ hx139_0)).trans hx139_0
                        replace hx139_1 := (HB.out.cell (World.block_lt_of_cell? w _ hx139_1)).trans hx139_1
                        have HR139_1 := Aside0.mk hi139_1
                        have HC139_1 := Aside0.mk hl139_1
                        clear hi139_1 hl139_1
                        replace p139 := eq_true p139
                        replace q139 := eq_true q139
                        go_wp2_with (first | ((with_reducible refine gate_dst (N := 5) rfl ?_); (try (refine gate_guard (by rfl) ?_; dsimp only)); refine box_event ?hg (N := 5) ?hd (cs := #[.int .u8 0, .slice none 0 0]) (t := 49) ?hr ?_; (case hd => rfl); (case hg => rfl); (case hr => first | (go_simp; done) | (go_simp; rfl)); intro gb140 hg w30 hbox hb; have n0_ := Aside0.mk (Kd.R_below (by (with_reducible repeat (first | apply Kd.R_alloc | apply Kd.R_drewN | apply Kd.R_drew)); exact HO_3.out) hb); have n1_ := Aside0.mk (blk_below (g := gb134) (o := .cells #[.int .i64 a0_0, .int .i64 a0_1, .slice (some ad139) l0_2.length c0_2, .int .i64 a0_3] 24 (0, 0)) (by (with_reducible repeat (first | refine blk_drewN ?_ _ | refine blk_drew ?_ | refine blk_alloc ?_ _)); exact BK134.out) hb); have n2_ := Aside0.mk (below_step (by repeat (first | (with_reducible first | exact HB.out | apply below_alloc | apply pw_below_drewN | apply below_drew1 | refine below_set ?_ GE134.out) | exact HB.out)) hb); have n3_ := Aside0.mk (hbox); have n4_ := Aside0.mk ((by rw [hg]; exact (below_size (by repeat (first | (with_reducible first | exact HB.out | apply below_alloc | apply pw_below_drewN | apply below_drew1 | refine below_set ?_ GE134.out) | exact HB.out))) : w.heap.size ≤ gb140)); have n5_ := Aside0.mk ((by rw [hg]; exact (below_size (by repeat (first | (with_reducible first | exact HB.out | apply below_alloc | apply pw_below_drewN | apply below_drew1 | refine below_set ?_ GE134.out) | exact HB.out))) : w.heap.size ≤ gb140)); have n6_ := Aside0.mk ((by rw [hg]; exact Nat.ne_of_lt (blk_lt (g := gb134) (o := .cells #[.int .i64 a0_0, .int .i64 a0_1, .slice (some ad139) l0_2.length c0_2, .int .i64 a0_3] 24 (0, 0)) (by (with_reducible repeat (first | refine blk_drewN ?_ _ | refine blk_drew ?_ | refine blk_alloc ?_ _)); exact BK134.out)) : gb134 ≠ gb140)); have n7_ := Aside0.mk ((by rw [hg]; exact Nat.ne_of_gt (blk_lt (g := gb134) (o := .cells #[.int .i64 a0_0, .int .i64 a0_1, .slice (some ad139) l0_2.length c0_2, .int .i64 a0_3] 24 (0, 0)) (by (with_reducible repeat (first | refine blk_drewN ?_ _ | refine blk_drew ?_ | refine blk_alloc ?_ _)); exact BK134.out)) : gb140 ≠ gb134)); clear HO_3; clear BK134; clear HB; have HO_3 := n0_; have BK134 := n1_; have HB := n2_; have BK140 := n3_; have GW140 := n4_; have GE140 := n5_; have NB134_140 := n6_; have NB140_134 := n7_; clear n0_ n1_ n2_ n3_ n4_ n5_ n6_ n7_; clear hb hbox hg; have hnb31 := NB140_134.out; have hnc31 := NB134_140.out; have hcz32_0 : w30.cell? ⟨gb140, 0, none⟩ = some (.int .u8 0) := (blk_cell BK140.out 0).trans rfl; have hcz32_1 : w30.cell? ⟨gb140, 1, none⟩ = some (.slice none 0 0) := (blk_cell BK140.out 1).trans rfl; have hfz32_0 := blk_frozen BK140.out 0; have hfz32_1 := blk_frozen BK140.out 1; have hcz33_0 : w30.cell? ⟨gb134, 0, none⟩ = some (.int .i64 a0_0) := (blk_cell BK134.out 0).trans rfl; have hcz33_1 : w30.cell? ⟨gb134, 1, none⟩ = some (.int .i64 a0_1) := (blk_cell BK134.out 1).trans rfl; have hcz33_2 : w30.cell? ⟨gb134, 2, none⟩ = some (.slice (some ad139) l0_2.length c0_2) := (blk_cell BK134.out 2).trans rfl; have hcz33_3 : w30.cell? ⟨gb134, 3, none⟩ = some (.int .i64 a0_3) := (blk_cell BK134.out 3).trans rfl; have hfz33_0 := blk_frozen BK134.out 0; have hfz33_1 := blk_frozen BK134.out 1; have hfz33_2 := blk_frozen BK134.out 2; have hfz33_3 := blk_frozen BK134.out 3))
                        repeat (go_quiet (first | ((with_reducible refine gate_dst (N := 5) rfl ?_); (try (refine gate_guard (by rfl) ?_; dsimp only)); refine box_event ?hg (N := 5) ?hd (cs := #[.int .u8 0, .slice none 0 0]) (t := 49) ?hr ?_; (case hd => rfl); (case hg => rfl); (case hr => first | (go_simp; done) | (go_simp; rfl)); intro gb140 hg w30 hbox hb; have n0_ := Aside0.mk (Kd.R_below (by (with_reducible repeat (first | apply Kd.R_alloc | apply Kd.R_drewN | apply Kd.R_drew)); exact HO_3.out) hb); have n1_ := Aside0.mk (blk_below (g := gb134) (o := .cells #[.int .i64 a0_0, .int .i64 a0_1, .slice (some ad139) l0_2.length c0_2, .int .i64 a0_3] 24 (0, 0)) (by (with_reducible repeat (first | refine blk_drewN ?_ _ | refine blk_drew ?_ | refine blk_alloc ?_ _)); exact BK134.out) hb); have n2_ := Aside0.mk (below_step (by repeat (first | (with_reducible first | exact HB.out | apply below_alloc | apply pw_below_drewN | apply below_drew1 | refine below_set ?_ GE134.out) | exact HB.out)) hb); have n3_ := Aside0.mk (hbox); have n4_ := Aside0.mk ((by rw [hg]; exact (below_size (by repeat (first | (with_reducible first | exact HB.out | apply below_alloc | apply pw_below_drewN | apply below_drew1 | refine below_set ?_ GE134.out) | exact HB.out))) : w.heap.size ≤ gb140)); have n5_ := Aside0.mk ((by rw [hg]; exact (below_size (by repeat (first | (with_reducible first | exact HB.out | apply below_alloc | apply pw_below_drewN | apply below_drew1 | refine below_set ?_ GE134.out) | exact HB.out))) : w.heap.size ≤ gb140)); have n6_ := Aside0.mk ((by rw [hg]; exact Nat.ne_of_lt (blk_lt (g := gb134) (o := .cells #[.int .i64 a0_0, .int .i64 a0_1, .slice (some ad139) l0_2.length c0_2, .int .i64 a0_3] 24 (0, 0)) (by (with_reducible repeat (first | refine blk_drewN ?_ _ | refine blk_drew ?_ | refine blk_alloc ?_ _)); exact BK134.out)) : gb134 ≠ gb140)); have n7_ := Aside0.mk ((by rw [hg]; exact Nat.ne_of_gt (blk_lt (g := gb134) (o := .cells #[.int .i64 a0_0, .int .i64 a0_1, .slice (some ad139) l0_2.length c0_2, .int .i64 a0_3] 24 (0, 0)) (by (with_reducible repeat (first | refine blk_drewN ?_ _ | refine blk_drew ?_ | refine blk_alloc ?_ _)); exact BK134.out)) : gb140 ≠ gb134)); clear HO_3; clear BK134; clear HB; have HO_3 := n0_; have BK134 := n1_; have HB := n2_; have BK140 := n3_; have GW140 := n4_; have GE140 := n5_; have NB134_140 := n6_; have NB140_134 := n7_; clear n0_ n1_ n2_ n3_ n4_ n5_ n6_ n7_; clear hb hbox hg; have hnb31 := NB140_134.out; have hnc31 := NB134_140.out; have hcz32_0 : w30.cell? ⟨gb140, 0, none⟩ = some (.int .u8 0) := (blk_cell BK140.out 0).trans rfl; have hcz32_1 : w30.cell? ⟨gb140, 1, none⟩ = some (.slice none 0 0) := (blk_cell BK140.out 1).trans rfl; have hfz32_0 := blk_frozen BK140.out 0; have hfz32_1 := blk_frozen BK140.out 1; have hcz33_0 : w30.cell? ⟨gb134, 0, none⟩ = some (.int .i64 a0_0) := (blk_cell BK134.out 0).trans rfl; have hcz33_1 : w30.cell? ⟨gb134, 1, none⟩ = some (.int .i64 a0_1) := (blk_cell BK134.out 1).trans rfl; have hcz33_2 : w30.cell? ⟨gb134, 2, none⟩ = some (.slice (some ad139) l0_2.length c0_2) := (blk_cell BK134.out 2).trans rfl; have hcz33_3 : w30.cell? ⟨gb134, 3, none⟩ = some (.int .i64 a0_3) := (blk_cell BK134.out 3).trans rfl; have hfz33_0 := blk_frozen BK134.out 0; have hfz33_1 := blk_frozen BK134.out 1; have hfz33_2 := blk_frozen BK134.out 2; have hfz33_3 := blk_frozen BK134.out 3)); try go_wp2_with (first | ((with_reducible refine gate_dst (N := 5) rfl ?_); (try (refine gate_guard (by rfl) ?_; dsimp only)); refine box_event ?hg (N := 5) ?hd (cs := #[.int .u8 0, .slice none 0 0]) (t := 49) ?hr ?_; (case hd => rfl); (case hg => rfl); (case hr => first | (go_simp; done) | (go_simp; rfl)); intro gb140 hg w30 hbox hb; have n0_ := Aside0.mk (Kd.R_below (by (with_reducible repeat (first | apply Kd.R_alloc | apply Kd.R_drewN | apply Kd.R_drew)); exact HO_3.out) hb); have n1_ := Aside0.mk (blk_below (g := gb134) (o := .cells #[.int .i64 a0_0, .int .i64 a0_1, .slice (some ad139) l0_2.length c0_2, .int .i64 a0_3] 24 (0, 0)) (by (with_reducible repeat (first | refine blk_drewN ?_ _ | refine blk_drew ?_ | refine blk_alloc ?_ _)); exact BK134.out) hb); have n2_ := Aside0.mk (below_step (by repeat (first | (with_reducible first | exact HB.out | apply below_alloc | apply pw_below_drewN | apply below_drew1 | refine below_set ?_ GE134.out) | exact HB.out)) hb); have n3_ := Aside0.mk (hbox); have n4_ := Aside0.mk ((by rw [hg]; exact (below_size (by repeat (first | (with_reducible first | exact HB.out | apply below_alloc | apply pw_below_drewN | apply below_drew1 | refine below_set ?_ GE134.out) | exact HB.out))) : w.heap.size ≤ gb140)); have n5_ := Aside0.mk ((by rw [hg]; exact (below_size (by repeat (first | (with_reducible first | exact HB.out | apply below_alloc | apply pw_below_drewN | apply below_drew1 | refine below_set ?_ GE134.out) | exact HB.out))) : w.heap.size ≤ gb140)); have n6_ := Aside0.mk ((by rw [hg]; exact Nat.ne_of_lt (blk_lt (g := gb134) (o := .cells #[.int .i64 a0_0, .int .i64 a0_1, .slice (some ad139) l0_2.length c0_2, .int .i64 a0_3] 24 (0, 0)) (by (with_reducible repeat (first | refine blk_drewN ?_ _ | refine blk_drew ?_ | refine blk_alloc ?_ _)); exact BK134.out)) : gb134 ≠ gb140)); have n7_ := Aside0.mk ((by rw [hg]; exact Nat.ne_of_gt (blk_lt (g := gb134) (o := .cells #[.int .i64 a0_0, .int .i64 a0_1, .slice (some ad139) l0_2.length c0_2, .int .i64 a0_3] 24 (0, 0)) (by (with_reducible repeat (first | refine blk_drewN ?_ _ | refine blk_drew ?_ | refine blk_alloc ?_ _)); exact BK134.out)) : gb140 ≠ gb134)); clear HO_3; clear BK134; clear HB; have HO_3 := n0_; have BK134 := n1_; have HB := n2_; have BK140 := n3_; have GW140 := n4_; have GE140 := n5_; have NB134_140 := n6_; have NB140_134 := n7_; clear n0_ n1_ n2_ n3_ n4_ n5_ n6_ n7_; clear hb hbox hg; have hnb31 := NB140_134.out; have hnc31 := NB134_140.out; have hcz32_0 : w30.cell? ⟨gb140, 0, none⟩ = some (.int .u8 0) := (blk_cell BK140.out 0).trans rfl; have hcz32_1 : w30.cell? ⟨gb140, 1, none⟩ = some (.slice none 0 0) := (blk_cell BK140.out 1).trans rfl; have hfz32_0 := blk_frozen BK140.out 0; have hfz32_1 := blk_frozen BK140.out 1; have hcz33_0 : w30.cell? ⟨gb134, 0, none⟩ = some (.int .i64 a0_0) := (blk_cell BK134.out 0).trans rfl; have hcz33_1 : w30.cell? ⟨gb134, 1, none⟩ = some (.int .i64 a0_1) := (blk_cell BK134.out 1).trans rfl; have hcz33_2 : w30.cell? ⟨gb134, 2, none⟩ = some (.slice (some ad139) l0_2.length c0_2) := (blk_cell BK134.out 2).trans rfl; have hcz33_3 : w30.cell? ⟨gb134, 3, none⟩ = some (.int .i64 a0_3) := (blk_cell BK134.out 3).trans rfl; have hfz33_0 := blk_frozen BK134.out 0; have hfz33_1 := blk_frozen BK134.out 1; have hfz33_2 := blk_frozen BK134.out 2; have hfz33_3 := blk_frozen BK134.out 3)))
                        go_ret
                        exact ⟨by first | rfl | (simp [errW_none, errW_some] <;> rfl) | (simp [*, errW_none, errW_some] <;> rfl), by repeat (first | (with_reducible first | exact HB.out | apply below_alloc | apply pw_below_drewN | apply below_drew1 | refine below_set ?_ GE134.out | refine below_set ?_ GE140.out) | exact HB.out)⟩
                      · rw [if_neg c28] at H
                        have c28b0 : decide (a0_0 ≤ (wrap64 ((rd_T49 l0_2 x4_2).f0))) = false := decide_eq_false c28
                        clear c28
                        have H' := Aside0.mk H
                        clear H
                        have hcz34_0 : wr.cell? ⟨gb134, 0, none⟩ = some (.int .i64 a0_0) := (blk_cell BK134.out 0).trans rfl
                        have hcz34_1 : wr.cell? ⟨gb134, 1, none⟩ = some (.int .i64 a0_1) := (blk_cell BK134.out 1).trans rfl
                        have hcz34_2 : wr.cell? ⟨gb134, 2, none⟩ = some (.slice A0_2 l0_2.length c0_2) := (blk_cell BK134.out 2).trans rfl
                        have hcz34_3 : wr.cell? ⟨gb134, 3, none⟩ = some (.int .i64 a0_3) := (blk_cell BK134.out 3).trans rfl
                        have hfz34_0 := blk_frozen BK134.out 0
                        have hfz34_1 := blk_frozen BK134.out 1
                        have hfz34_2 := blk_frozen BK134.out 2
                        have hfz34_3 := blk_frozen BK134.out 3
                        have p139 : 0 ≤ (x4_2 : Int) := of_decide_eq_true (by first | (with_reducible assumption) | assumption)
                        have q139 : x4_2 < (l0_2.length : Int) := of_decide_eq_true (by first | (with_reducible assumption) | assumption)
                        obtain ⟨ad139, A139_1, c139_1, e139, hx139_0, hx139_1, hl139_1, hi139_1⟩ := at_T49 HR0_2.out x4_2 p139 q139
                        cases e139
                        replace hx139_0 := (HB.out.cell (World.block_lt_of_cell? w _ hx139_0)).trans hx139_0
                        replace hx139_1 := (HB.out.cell (World.block_lt_of_cell? w _ hx139_1)).trans hx139_1
                        have HR139_1 := Aside0.mk hi139_1
                        have HC139_1 := Aside0.mk hl139_1
                        clear hi139_1 hl139_1
                        replace p139 := eq_true p139
                        replace q139 := eq_true q139
                        go_wp2_with (first | ((with_reducible refine gate_dst (N := 5) rfl ?_); (try (refine gate_guard (by rfl) ?_; dsimp only)); refine box_event ?hg (N := 5) ?hd (cs := #[.int .u8 0, .slice none 0 0]) (t := 49) ?hr ?_; (case hd => rfl); (case hg => rfl); (case hr => first | (go_simp; done) | (go_simp; rfl)); intro gb140 hg w35 hbox hb; have n0_ := Aside0.mk (Kd.R_below (by (with_reducible repeat (first | apply Kd.R_alloc | apply Kd.R_drewN | apply Kd.R_drew)); exact HO_3.out) hb); have n1_ := Aside0.mk (blk_below (g := gb134) (o := .cells #[.int .i64 a0_0, .int .i64 a0_1, .slice (some ad139) l0_2.length c0_2, .int .i64 a0_3] 24 (0, 0)) (by (with_reducible repeat (first | refine blk_drewN ?_ _ | refine blk_drew ?_ | refine blk_alloc ?_ _)); exact BK134.out) hb); have n2_ := Aside0.mk (below_step (by repeat (first | (with_reducible first | exact HB.out | apply below_alloc | apply pw_below_drewN | apply below_drew1 | refine below_set ?_ GE134.out) | exact HB.out)) hb); have n3_ := Aside0.mk (hbox); have n4_ := Aside0.mk ((by rw [hg]; exact (below_size (by repeat (first | (with_reducible first | exact HB.out | apply below_alloc | apply pw_below_drewN | apply below_drew1 | refine below_set ?_ GE134.out) | exact HB.out))) : w.heap.size ≤ gb140)); have n5_ := Aside0.mk ((by rw [hg]; exact (below_size (by repeat (first | (with_reducible first | exact HB.out | apply below_alloc | apply pw_below_drewN | apply below_drew1 | refine below_set ?_ GE134.out) | exact HB.out))) : w.heap.size ≤ gb140)); have n6_ := Aside0.mk ((by rw [hg]; exact Nat.ne_of_lt (blk_lt (g := gb134) (o := .cells #[.int .i64 a0_0, .int .i64 a0_1, .slice (some ad139) l0_2.length c0_2, .int .i64 a0_3] 24 (0, 0)) (by (with_reducible repeat (first | refine blk_drewN ?_ _ | refine blk_drew ?_ | refine blk_alloc ?_ _)); exact BK134.out)) : gb134 ≠ gb140)); have n7_ := Aside0.mk ((by rw [hg]; exact Nat.ne_of_gt (blk_lt (g := gb134) (o := .cells #[.int .i64 a0_0, .int .i64 a0_1, .slice (some ad139) l0_2.length c0_2, .int .i64 a0_3] 24 (0, 0)) (by (with_reducible repeat (first | refine blk_drewN ?_ _ | refine blk_drew ?_ | refine blk_alloc ?_ _)); exact BK134.out)) : gb140 ≠ gb134)); clear HO_3; clear BK134; clear HB; have HO_3 := n0_; have BK134 := n1_; have HB := n2_; have BK140 := n3_; have GW140 := n4_; have GE140 := n5_; have NB134_140 := n6_; have NB140_134 := n7_; clear n0_ n1_ n2_ n3_ n4_ n5_ n6_ n7_; clear hb hbox hg; have hnb36 := NB140_134.out; have hnc36 := NB134_140.out; have hcz37_0 : w35.cell? ⟨gb140, 0, none⟩ = some (.int .u8 0) := (blk_cell BK140.out 0).trans rfl; have hcz37_1 : w35.cell? ⟨gb140, 1, none⟩ = some (.slice none 0 0) := (blk_cell BK140.out 1).trans rfl; have hfz37_0 := blk_frozen BK140.out 0; have hfz37_1 := blk_frozen BK140.out 1; have hcz38_0 : w35.cell? ⟨gb134, 0, none⟩ = some (.int .i64 a0_0) := (blk_cell BK134.out 0).trans rfl; have hcz38_1 : w35.cell? ⟨gb134, 1, none⟩ = some (.int .i64 a0_1) := (blk_cell BK134.out 1).trans rfl; have hcz38_2 : w35.cell? ⟨gb134, 2, none⟩ = some (.slice (some ad139) l0_2.length c0_2) := (blk_cell BK134.out 2).trans rfl; have hcz38_3 : w35.cell? ⟨gb134, 3, none⟩ = some (.int .i64 a0_3) := (blk_cell BK134.out 3).trans rfl; have hfz38_0 := blk_frozen BK134.out 0; have hfz38_1 := blk_frozen BK134.out 1; have hfz38_2 := blk_frozen BK134.out 2; have hfz38_3 := blk_frozen BK134.out 3))
                        repeat (go_quiet (first | ((with_reducible refine gate_dst (N := 5) rfl ?_); (try (refine gate_guard (by rfl) ?_; dsimp only)); refine box_event ?hg (N := 5) ?hd (cs := #[.int .u8 0, .slice none 0 0]) (t := 49) ?hr ?_; (case hd => rfl); (case hg => rfl); (case hr => first | (go_simp; done) | (go_simp; rfl)); intro gb140 hg w35 hbox hb; have n0_ := Aside0.mk (Kd.R_below (by (with_reducible repeat (first | apply Kd.R_alloc | apply Kd.R_drewN | apply Kd.R_drew)); exact HO_3.out) hb); have n1_ := Aside0.mk (blk_below (g := gb134) (o := .cells #[.int .i64 a0_0, .int .i64 a0_1, .slice (some ad139) l0_2.length c0_2, .int .i64 a0_3] 24 (0, 0)) (by (with_reducible repeat (first | refine blk_drewN ?_ _ | refine blk_drew ?_ | refine blk_alloc ?_ _)); exact BK134.out) hb); have n2_ := Aside0.mk (below_step (by repeat (first | (with_reducible first | exact HB.out | apply below_alloc | apply pw_below_drewN | apply below_drew1 | refine below_set ?_ GE134.out) | exact HB.out)) hb); have n3_ := Aside0.mk (hbox); have n4_ := Aside0.mk ((by rw [hg]; exact (below_size (by repeat (first | (with_reducible first | exact HB.out | apply below_alloc | apply pw_below_drewN | apply below_drew1 | refine below_set ?_ GE134.out) | exact HB.out))) : w.heap.size ≤ gb140)); have n5_ := Aside0.mk ((by rw [hg]; exact (below_size (by repeat (first | (with_reducible first | exact HB.out | apply below_alloc | apply pw_below_drewN | apply below_drew1 | refine below_set ?_ GE134.out) | exact HB.out))) : w.heap.size ≤ gb140)); have n6_ := Aside0.mk ((by rw [hg]; exact Nat.ne_of_lt (blk_lt (g := gb134) (o := .cells #[.int .i64 a0_0, .int .i64 a0_1, .slice (some ad139) l0_2.length c0_2, .int .i64 a0_3] 24 (0, 0)) (by (with_reducible repeat (first | refine blk_drewN ?_ _ | refine blk_drew ?_ | refine blk_alloc ?_ _)); exact BK134.out)) : gb134 ≠ gb140)); have n7_ := Aside0.mk ((by rw [hg]; exact Nat.ne_of_gt (blk_lt (g := gb134) (o := .cells #[.int .i64 a0_0, .int .i64 a0_1, .slice (some ad139) l0_2.length c0_2, .int .i64 a0_3] 24 (0, 0)) (by (with_reducible repeat (first | refine blk_drewN ?_ _ | refine blk_drew ?_ | refine blk_alloc ?_ _)); exact BK134.out)) : gb140 ≠ gb134)); clear HO_3; clear BK134; clear HB; have HO_3 := n0_; have BK134 := n1_; have HB := n2_; have BK140 := n3_; have GW140 := n4_; have GE140 := n5_; have NB134_140 := n6_; have NB140_134 := n7_; clear n0_ n1_ n2_ n3_ n4_ n5_ n6_ n7_; clear hb hbox hg; have hnb36 := NB140_134.out; have hnc36 := NB134_140.out; have hcz37_0 : w35.cell? ⟨gb140, 0, none⟩ = some (.int .u8 0) := (blk_cell BK140.out 0).trans rfl; have hcz37_1 : w35.cell? ⟨gb140, 1, none⟩ = some (.slice none 0 0) := (blk_cell BK140.out 1).trans rfl; have hfz37_0 := blk_frozen BK140.out 0; have hfz37_1 := blk_frozen BK140.out 1; have hcz38_0 : w35.cell? ⟨gb134, 0, none⟩ = some (.int .i64 a0_0) := (blk_cell BK134.out 0).trans rfl; have hcz38_1 : w35.cell? ⟨gb134, 1, none⟩ = some (.int .i64 a0_1) := (blk_cell BK134.out 1).trans rfl; have hcz38_2 : w35.cell? ⟨gb134, 2, none⟩ = some (.slice (some ad139) l0_2.length c0_2) := (blk_cell BK134.out 2).trans rfl; have hcz38_3 : w35.cell? ⟨gb134, 3, none⟩ = some (.int .i64 a0_3) := (blk_cell BK134.out 3).trans rfl; have hfz38_0 := blk_frozen BK134.out 0; have hfz38_1 := blk_frozen BK134.out 1; have hfz38_2 := blk_frozen BK134.out 2; have hfz38_3 := blk_frozen BK134.out 3)); try go_wp2_with (first | ((with_reducible refine gate_dst (N := 5) rfl ?_); (try (refine gate_guard (by rfl) ?_; dsimp only)); refine box_event ?hg (N := 5) ?hd (cs := #[.int .u8 0, .slice none 0 0]) (t := 49) ?hr ?_; (case hd => rfl); (case hg => rfl); (case hr => first | (go_simp; done) | (go_simp; rfl)); intro gb140 hg w35 hbox hb; have n0_ := Aside0.mk (Kd.R_below (by (with_reducible repeat (first | apply Kd.R_alloc | apply Kd.R_drewN | apply Kd.R_drew)); exact HO_3.out) hb); have n1_ := Aside0.mk (blk_below (g := gb134) (o := .cells #[.int .i64 a0_0, .int .i64 a0_1, .slice (some ad139) l0_2.length c0_2, .int .i64 a0_3] 24 (0, 0)) (by (with_reducible repeat (first | refine blk_drewN ?_ _ | refine blk_drew ?_ | refine blk_alloc ?_ _)); exact BK134.out) hb); have n2_ := Aside0.mk (below_step (by repeat (first | (with_reducible first | exact HB.out | apply below_alloc | apply pw_below_drewN | apply below_drew1 | refine below_set ?_ GE134.out) | exact HB.out)) hb); have n3_ := Aside0.mk (hbox); have n4_ := Aside0.mk ((by rw [hg]; exact (below_size (by repeat (first | (with_reducible first | exact HB.out | apply below_alloc | apply pw_below_drewN | apply below_drew1 | refine below_set ?_ GE134.out) | exact HB.out))) : w.heap.size ≤ gb140)); have n5_ := Aside0.mk ((by rw [hg]; exact (below_size (by repeat (first | (with_reducible first | exact HB.out | apply below_alloc | apply pw_below_drewN | apply below_drew1 | refine below_set ?_ GE134.out) | exact HB.out))) : w.heap.size ≤ gb140)); have n6_ := Aside0.mk ((by rw [hg]; exact Nat.ne_of_lt (blk_lt (g := gb134) (o := .cells #[.int .i64 a0_0, .int .i64 a0_1, .slice (some ad139) l0_2.length c0_2, .int .i64 a0_3] 24 (0, 0)) (by (with_reducible repeat (first | refine blk_drewN ?_ _ | refine blk_drew ?_ | refine blk_alloc ?_ _)); exact BK134.out)) : gb134 ≠ gb140)); have n7_ := Aside0.mk ((by rw [hg]; exact Nat.ne_of_gt (blk_lt (g := gb134) (o := .cells #[.int .i64 a0_0, .int .i64 a0_1, .slice (some ad139) l0_2.length c0_2, .int .i64 a0_3] 24 (0, 0)) (by (with_reducible repeat (first | refine blk_drewN ?_ _ | refine blk_drew ?_ | refine blk_alloc ?_ _)); exact BK134.out)) : gb140 ≠ gb134)); clear HO_3; clear BK134; clear HB; have HO_3 := n0_; have BK134 := n1_; have HB := n2_; have BK140 := n3_; have GW140 := n4_; have GE140 := n5_; have NB134_140 := n6_; have NB140_134 := n7_; clear n0_ n1_ n2_ n3_ n4_ n5_ n6_ n7_; clear hb hbox hg; have hnb36 := NB140_134.out; have hnc36 := NB134_140.out; have hcz37_0 : w35.cell? ⟨gb140, 0, none⟩ = some (.int .u8 0) := (blk_cell BK140.out 0).trans rfl; have hcz37_1 : w35.cell? ⟨gb140, 1, none⟩ = some (.slice none 0 0) := (blk_cell BK140.out 1).trans rfl; have hfz37_0 := blk_frozen BK140.out 0; have hfz37_1 := blk_frozen BK140.out 1; have hcz38_0 : w35.cell? ⟨gb134, 0, none⟩ = some (.int .i64 a0_0) := (blk_cell BK134.out 0).trans rfl; have hcz38_1 : w35.cell? ⟨gb134, 1, none⟩ = some (.int .i64 a0_1) := (blk_cell BK134.out 1).trans rfl; have hcz38_2 : w35.cell? ⟨gb134, 2, none⟩ = some (.slice (some ad139) l0_2.length c0_2) := (blk_cell BK134.out 2).trans rfl; have hcz38_3 : w35.cell? ⟨gb134, 3, none⟩ = some (.int .i64 a0_3) := (blk_cell BK134.out 3).trans rfl; have hfz38_0 := blk_frozen BK134.out 0; have hfz38_1 := blk_frozen BK134.out 1; have hfz38_2 := blk_frozen BK134.out 2; have hfz38_3 := blk_frozen BK134.out 3)))
                        go_roundg k2
                        case measure => have := HJ1.out; have := HK2.out; omega
                        case rel => exact ⟨(x3_2), (wrap64 (x4_2 + 1)), (by first | rfl | (simp; done) | (simp [*]; done) | (simp [wrap64]; done)), H', ⟨by have := HJ1.out; have := HK2.out; omega⟩, ⟨by (with_reducible repeat (first | apply Kd.R_alloc | apply Kd.R_drewN | apply Kd.R_drew)); exact Kd.R_mono (Kd.R_far (p := ⟨gb140, 1, none⟩) (Kd.R_far (p := ⟨gb140, 0, none⟩) (Kd.R_types HO_3.out BK140.out (by decide)) (fun _ hk => hk.2) (.int .u8 ((rd_T49 l0_2 x4_2).f0))) (fun _ hk => hk.2) (.slice A139_1 ((rd_T49 l0_2 x4_2).f1).length c139_1)) (fun _ hk => trivial)⟩, ⟨by (with_reducible repeat (first | refine blk_drewN ?_ _ | refine blk_drew ?_ | refine blk_alloc ?_ _)); refine blk_far ?_ NB134_140.out _; (with_reducible repeat (first | refine blk_drewN ?_ _ | refine blk_drew ?_ | refine blk_alloc ?_ _)); refine blk_far ?_ NB134_140.out _; (with_reducible repeat (first | refine blk_drewN ?_ _ | refine blk_drew ?_ | refine blk_alloc ?_ _)); exact BK134.out⟩, ⟨by repeat (first | (with_reducible first | exact HB.out | apply below_alloc | apply pw_below_drewN | apply below_drew1 | refine below_set ?_ GE134.out | refine below_set ?_ GE140.out) | exact HB.out)⟩⟩
                    · rw [if_neg c27] at H
                      have c27b0 : ((((rd_T49 l0_2 x4_2).f1).length : Int) == 0) = false := beq_eq_false_iff_ne.mpr c27
                      have c27b1 : ((((rd_T49 l0_2 x4_2).f1).length : Int) != 0) = true := bne_iff_ne.mpr c27
                      have c27b2 : ¬ (((rd_T49 l0_2 x4_2).f1) = []) := fun h_ => c27 (by rw [h_]; rfl)
                      have HC39 := Aside0.mk H
                      clear H
                      have hcz40_0 : wr.cell? ⟨gb134, 0, none⟩ = some (.int .i64 a0_0) := (blk_cell BK134.out 0).trans rfl
                      have hcz40_1 : wr.cell? ⟨gb134, 1, none⟩ = some (.int .i64 a0_1) := (blk_cell BK134.out 1).trans rfl
                      have hcz40_2 : wr.cell? ⟨gb134, 2, none⟩ = some (.slice A0_2 l0_2.length c0_2) := (blk_cell BK134.out 2).trans rfl
                      have hcz40_3 : wr.cell? ⟨gb134, 3, none⟩ = some (.int .i64 a0_3) := (blk_cell BK134.out 3).trans rfl
                      have hfz40_0 := blk_frozen BK134.out 0
                      have hfz40_1 := blk_frozen BK134.out 1
                      have hfz40_2 := blk_frozen BK134.out 2
                      have hfz40_3 := blk_frozen BK134.out 3
                      have p139 : 0 ≤ (x4_2 : Int) := of_decide_eq_true (by first | (with_reducible assumption) | assumption)
                      have q139 : x4_2 < (l0_2.length : Int) := of_decide_eq_true (by first | (with_reducible assumption) | assumption)
                      obtain ⟨ad139, A139_1, c139_1, e139, hx139_0, hx139_1, hl139_1, hi139_1⟩ := at_T49 HR0_2.out x4_2 p139 q139
                      cases e139
                      replace hx139_0 := (HB.out.cell (World.block_lt_of_cell? w _ hx139_0)).trans hx139_0
                      replace hx139_1 := (HB.out.cell (World.block_lt_of_cell? w _ hx139_1)).trans hx139_1
                      have HR139_1 := Aside0.mk hi139_1
                      have HC139_1 := Aside0.mk hl139_1
                      clear hi139_1 hl139_1
                      replace p139 := eq_true p139
                      replace q139 := eq_true q139
                      go_upto_region 11 with (first | ((with_reducible refine gate_dst (N := 5) rfl ?_); (try (refine gate_guard (by rfl) ?_; dsimp only)); refine box_event ?hg (N := 5) ?hd (cs := #[.int .u8 0, .slice none 0 0]) (t := 49) ?hr ?_; (case hd => rfl); (case hg => rfl); (case hr => first | (go_simp; done) | (go_simp; rfl)); intro gb140 hg w41 hbox hb; have n0_ := Aside0.mk (Kd.R_below (by (with_reducible repeat (first | apply Kd.R_alloc | apply Kd.R_drewN | apply Kd.R_drew)); exact HO_3.out) hb); have n1_ := Aside0.mk (blk_below (g := gb134) (o := .cells #[.int .i64 a0_0, .int .i64 a0_1, .slice (some ad139) l0_2.length c0_2, .int .i64 a0_3] 24 (0, 0)) (by (with_reducible repeat (first | refine blk_drewN ?_ _ | refine blk_drew ?_ | refine blk_alloc ?_ _)); exact BK134.out) hb); have n2_ := Aside0.mk (below_step (by repeat (first | (with_reducible first | exact HB.out | apply below_alloc | apply pw_below_drewN | apply below_drew1 | refine below_set ?_ GE134.out) | exact HB.out)) hb); have n3_ := Aside0.mk (hbox); have n4_ := Aside0.mk ((by rw [hg]; exact (below_size (by repeat (first | (with_reducible first | exact HB.out | apply below_alloc | apply pw_below_drewN | apply below_drew1 | refine below_set ?_ GE134.out) | exact HB.out))) : w.heap.size ≤ gb140)); have n5_ := Aside0.mk ((by rw [hg]; exact (below_size (by repeat (first | (with_reducible first | exact HB.out | apply below_alloc | apply pw_below_drewN | apply below_drew1 | refine below_set ?_ GE134.out) | exact HB.out))) : w.heap.size ≤ gb140)); have n6_ := Aside0.mk ((by rw [hg]; exact Nat.ne_of_lt (blk_lt (g := gb134) (o := .cells #[.int .i64 a0_0, .int .i64 a0_1, .slice (some ad139) l0_2.length c0_2, .int .i64 a0_3] 24 (0, 0)) (by (with_reducible repeat (first | refine blk_drewN ?_ _ | refine blk_drew ?_ | refine blk_alloc ?_ _)); exact BK134.out)) : gb134 ≠ gb140)); have n7_ := Aside0.mk ((by rw [hg]; exact Nat.ne_of_gt (blk_lt (g := gb134) (o := .cells #[.int .i64 a0_0, .int .i64 a0_1, .slice (some ad139) l0_2.length c0_2, .int .i64 a0_3] 24 (0, 0)) (by (with_reducible repeat (first | refine blk_drewN ?_ _ | refine blk_drew ?_ | refine blk_alloc ?_ _)); exact BK134.out)) : gb140 ≠ gb134)); clear HO_3; clear BK134; clear HB; have HO_3 := n0_; have BK134 := n1_; have HB := n2_; have BK140 := n3_; have GW140 := n4_; have GE140 := n5_; have NB134_140 := n6_; have NB140_134 := n7_; clear n0_ n1_ n2_ n3_ n4_ n5_ n6_ n7_; clear hb hbox hg; have hnb42 := NB140_134.out; have hnc42 := NB134_140.out; have hcz43_0 : w41.cell? ⟨gb140, 0, none⟩ = some (.int .u8 0) := (blk_cell BK140.out 0).trans rfl; have hcz43_1 : w41.cell? ⟨gb140, 1, none⟩ = some (.slice none 0 0) := (blk_cell BK140.out 1).trans rfl; have hfz43_0 := blk_frozen BK140.out 0; have hfz43_1 := blk_frozen BK140.out 1))
                      repeat (go_quiet (first | ((with_reducible refine gate_dst (N := 5) rfl ?_); (try (refine gate_guard (by rfl) ?_; dsimp only)); refine box_event ?hg (N := 5) ?hd (cs := #[.int .u8 0, .slice none 0 0]) (t := 49) ?hr ?_; (case hd => rfl); (case hg => rfl); (case hr => first | (go_simp; done) | (go_simp; rfl)); intro gb140 hg w41 hbox hb; have n0_ := Aside0.mk (Kd.R_below (by (with_reducible repeat (first | apply Kd.R_alloc | apply Kd.R_drewN | apply Kd.R_drew)); exact HO_3.out) hb); have n1_ := Aside0.mk (blk_below (g := gb134) (o := .cells #[.int .i64 a0_0, .int .i64 a0_1, .slice (some ad139) l0_2.length c0_2, .int .i64 a0_3] 24 (0, 0)) (by (with_reducible repeat (first | refine blk_drewN ?_ _ | refine blk_drew ?_ | refine blk_alloc ?_ _)); exact BK134.out) hb); have n2_ := Aside0.mk (below_step (by repeat (first | (with_reducible first | exact HB.out | apply below_alloc | apply pw_below_drewN | apply below_drew1 | refine below_set ?_ GE134.out) | exact HB.out)) hb); have n3_ := Aside0.mk (hbox); have n4_ := Aside0.mk ((by rw [hg]; exact (below_size (by repeat (first | (with_reducible first | exact HB.out | apply below_alloc | apply pw_below_drewN | apply below_drew1 | refine below_set ?_ GE134.out) | exact HB.out))) : w.heap.size ≤ gb140)); have n5_ := Aside0.mk ((by rw [hg]; exact (below_size (by repeat (first | (with_reducible first | exact HB.out | apply below_alloc | apply pw_below_drewN | apply below_drew1 | refine below_set ?_ GE134.out) | exact HB.out))) : w.heap.size ≤ gb140)); have n6_ := Aside0.mk ((by rw [hg]; exact Nat.ne_of_lt (blk_lt (g := gb134) (o := .cells #[.int .i64 a0_0, .int .i64 a0_1, .slice (some ad139) l0_2.length c0_2, .int .i64 a0_3] 24 (0, 0)) (by (with_reducible repeat (first | refine blk_drewN ?_ _ | refine blk_drew ?_ | refine blk_alloc ?_ _)); exact BK134.out)) : gb134 ≠ gb140)); have n7_ := Aside0.mk ((by rw [hg]; exact Nat.ne_of_gt (blk_lt (g := gb134) (o := .cells #[.int .i64 a0_0, .int .i64 a0_1, .slice (some ad139) l0_2.length c0_2, .int .i64 a0_3] 24 (0, 0)) (by (with_reducible repeat (first | refine blk_drewN ?_ _ | refine blk_drew ?_ | refine blk_alloc ?_ _)); exact BK134.out)) : gb140 ≠ gb134)); clear HO_3; clear BK134; clear HB; have HO_3 := n0_; have BK134 := n1_; have HB := n2_; have BK140 := n3_; have GW140 := n4_; have GE140 := n5_; have NB134_140 := n6_; have NB140_134 := n7_; clear n0_ n1_ n2_ n3_ n4_ n5_ n6_ n7_; clear hb hbox hg; have hnb42 := NB140_134.out; have hnc42 := NB134_140.out; have hcz43_0 : w41.cell? ⟨gb140, 0, none⟩ = some (.int .u8 0) := (blk_cell BK140.out 0).trans rfl; have hcz43_1 : w41.cell? ⟨gb140, 1, none⟩ = some (.slice none 0 0) := (blk_cell BK140.out 1).trans rfl; have hfz43_0 := blk_frozen BK140.out 0; have hfz43_1 := blk_frozen BK140.out 1)); go_upto_region 11 with (first | ((with_reducible refine gate_dst (N := 5) rfl ?_); (try (refine gate_guard (by rfl) ?_; dsimp only)); refine box_event ?hg (N := 5) ?hd (cs := #[.int .u8 0, .slice none 0 0]) (t := 49) ?hr ?_; (case hd => rfl); (case hg => rfl); (case hr => first | (go_simp; done) | (go_simp; rfl)); intro gb140 hg w41 hbox hb; have n0_ := Aside0.mk (Kd.R_below (by (with_reducible repeat (first | apply Kd.R_alloc | apply Kd.R_drewN | apply Kd.R_drew)); exact HO_3.out) hb); have n1_ := Aside0.mk (blk_below (g := gb134) (o := .cells #[.int .i64 a0_0, .int .i64 a0_1, .slice (some ad139) l0_2.length c0_2, .int .i64 a0_3] 24 (0, 0)) (by (with_reducible repeat (first | refine blk_drewN ?_ _ | refine blk_drew ?_ | refine blk_alloc ?_ _)); exact BK134.out) hb); have n2_ := Aside0.mk (below_step (by repeat (first | (with_reducible first | exact HB.out | apply below_alloc | apply pw_below_drewN | apply below_drew1 | refine below_set ?_ GE134.out) | exact HB.out)) hb); have n3_ := Aside0.mk (hbox); have n4_ := Aside0.mk ((by rw [hg]; exact (below_size (by repeat (first | (with_reducible first | exact HB.out | apply below_alloc | apply pw_below_drewN | apply below_drew1 | refine below_set ?_ GE134.out) | exact HB.out))) : w.heap.size ≤ gb140)); have n5_ := Aside0.mk ((by rw [hg]; exact (below_size (by repeat (first | (with_reducible first | exact HB.out | apply below_alloc | apply pw_below_drewN | apply below_drew1 | refine below_set ?_ GE134.out) | exact HB.out))) : w.heap.size ≤ gb140)); have n6_ := Aside0.mk ((by rw [hg]; exact Nat.ne_of_lt (blk_lt (g := gb134) (o := .cells #[.int .i64 a0_0, .int .i64 a0_1, .slice (some ad139) l0_2.length c0_2, .int .i64 a0_3] 24 (0, 0)) (by (with_reducible repeat (first | refine blk_drewN ?_ _ | refine blk_drew ?_ | refine blk_alloc ?_ _)); exact BK134.out)) : gb134 ≠ gb140)); have n7_ := Aside0.mk ((by rw [hg]; exact Nat.ne_of_gt (blk_lt (g := gb134) (o := .cells #[.int .i64 a0_0, .int .i64 a0_1, .slice (some ad139) l0_2.length c0_2, .int .i64 a0_3] 24 (0, 0)) (by (with_reducible repeat (first | refine blk_drewN ?_ _ | refine blk_drew ?_ | refine blk_alloc ?_ _)); exact BK134.out)) : gb140 ≠ gb134)); clear HO_3; clear BK134; clear HB; have HO_3 := n0_; have BK134 := n1_; have HB := n2_; have BK140 := n3_; have GW140 := n4_; have GE140 := n5_; have NB134_140 := n6_; have NB140_134 := n7_; clear n0_ n1_ n2_ n3_ n4_ n5_ n6_ n7_; clear hb hbox hg; have hnb42 := NB140_134.out; have hnc42 := NB134_140.out; have hcz43_0 : w41.cell? ⟨gb140, 0, none⟩ = some (.int .u8 0) := (blk_cell BK140.out 0).trans rfl; have hcz43_1 : w41.cell? ⟨gb140, 1, none⟩ = some (.slice none 0 0) := (blk_cell BK140.out 1).trans rfl; have hfz43_0 := blk_frozen BK140.out 0; have hfz43_1 := blk_frozen BK140.out 1)))
                      (try simp only [Act.put, List.setIfInBounds_toArray, List.set_cons_zero, List.set_cons_succ])
                      go_cut [86] (fun v86 wc => ∃ (kq : Nat) (x86_38 : Bool), v86 = .bool x86_38 ∧ Aside0 (vivariumref11_Check.j2 kq x3_2 x4_2 x86_38 a0_0 a0_1 l0_2 a0_3 ((rd_T49 l0_2 x4_2).f0) ((rd_T49 l0_2 x4_2).f1) = some r) ∧ Aside0 (kq ≤ k2) ∧ Aside0 (Kd.R (Kd.int .i64) 3 wc w.heap.size (fun _ => True) v136 x3_2) ∧ Aside0 (wc.heap[gb134]? = some (.cells #[.int .i64 a0_0, .int .i64 a0_1, (.slice (some ad139) l0_2.length c0_2), .int .i64 a0_3] 24 (0, 0))) ∧ Aside0 (wc.heap[gb140]? = some (.cells #[.int .u8 ((rd_T49 l0_2 x4_2).f0), (.slice A139_1 ((rd_T49 l0_2 x4_2).f1).length c139_1)] 49 (0, 0))) ∧ Aside0 (Below w.heap.size w wc))
                      case first =>
                        have H := HC39.out
                        clear HC39
                        by_cases c44 : ((rd_T49 l0_2 x4_2).f0) = 0
                        · rw [if_pos c44] at H
                          have c44b0 : (((rd_T49 l0_2 x4_2).f0) == 0) = true := beq_iff_eq.mpr c44
                          have c44b1 : (((rd_T49 l0_2 x4_2).f0) != 0) = false := bne_eq_false_iff_eq.mpr c44
                          clear c44
                          (first | rw [c44b0] | (simp only [i64_w, i32_w]; rw [c44b0]) | skip)
                          have H' := Aside0.mk H
                          clear H
                          have hnb45 := NB140_134.out
                          have hnc45 := NB134_140.out
                          have hcz46_0 : w41.cell? ⟨gb140, 0, none⟩ = some (.int .u8 0) := (blk_cell BK140.out 0).trans rfl
                          have hcz46_1 : w41.cell? ⟨gb140, 1, none⟩ = some (.slice none 0 0) := (blk_cell BK140.out 1).trans rfl
                          have hfz46_0 := blk_frozen BK140.out 0
                          have hfz46_1 := blk_frozen BK140.out 1
                          have hcz47_0 : w41.cell? ⟨gb134, 0, none⟩ = some (.int .i64 a0_0) := (blk_cell BK134.out 0).trans rfl
                          have hcz47_1 : w41.cell? ⟨gb134, 1, none⟩ = some (.int .i64 a0_1) := (blk_cell BK134.out 1).trans rfl
                          have hcz47_2 : w41.cell? ⟨gb134, 2, none⟩ = some (.slice (some ad139) l0_2.length c0_2) := (blk_cell BK134.out 2).trans rfl
                          have hcz47_3 : w41.cell? ⟨gb134, 3, none⟩ = some (.int .i64 a0_3) := (blk_cell BK134.out 3).trans rfl
                          have hfz47_0 := blk_frozen BK134.out 0
                          have hfz47_1 := blk_frozen BK134.out 1
                          have hfz47_2 := blk_frozen BK134.out 2
                          have hfz47_3 := blk_frozen BK134.out 3
                          go_wp2
                          repeat (go_quiet (fail); try go_wp2)
                          go_meet
                          case rel => exact ⟨_, (((((rd_T49 l0_2 x4_2).f1).length : Int) != a0_0)), (by first | rfl | (simp; done) | (simp [*]; done) | (simp [wrap64]; done)), H', ⟨by have := HJ1.out; have := HK2.out; first | omega | exact Nat.le_refl _⟩, ⟨by (with_reducible repeat (first | apply Kd.R_alloc | apply Kd.R_drewN | apply Kd.R_drew)); exact Kd.R_mono (Kd.R_far (p := ⟨gb140, 1, none⟩) (Kd.R_far (p := ⟨gb140, 0, none⟩) (Kd.R_types HO_3.out BK140.out (by decide)) (fun _ hk => hk.2) (.int .u8 ((rd_T49 l0_2 x4_2).f0))) (fun _ hk => hk.2) (.slice A139_1 ((rd_T49 l0_2 x4_2).f1).length c139_1)) (fun _ hk => trivial)⟩, ⟨by (with_reducible repeat (first | refine blk_drewN ?_ _ | refine blk_drew ?_ | refine blk_alloc ?_ _)); refine blk_far ?_ NB134_140.out _; (with_reducible repeat (first | refine blk_drewN ?_ _ | refine blk_drew ?_ | refine blk_alloc ?_ _)); refine blk_far ?_ NB134_140.out _; (with_reducible repeat (first | refine blk_drewN ?_ _ | refine blk_drew ?_ | refine blk_alloc ?_ _)); exact BK134.out⟩, ⟨by (with_reducible repeat (first | refine blk_drewN ?_ _ | refine blk_drew ?_ | refine blk_alloc ?_ _)); refine blk_put (cs := #[.int .u8 ((rd_T49 l0_2 x4_2).f0), .slice none 0 0]) ?_ 1 _ rfl; (with_reducible repeat (first | refine blk_drewN ?_ _ | refine blk_drew ?_ | refine blk_alloc ?_ _)); refine blk_put (cs := #[.int .u8 0, .slice none 0 0]) ?_ 0 _ rfl; (with_reducible repeat (first | refine blk_drewN ?_ _ | refine blk_drew ?_ | refine blk_alloc ?_ _)); exact BK140.out⟩, ⟨by repeat (first | (with_reducible first | exact HB.out | apply below_alloc | apply pw_below_drewN | apply below_drew1 | refine below_set ?_ GE134.out | refine below_set ?_ GE140.out) | exact HB.out)⟩⟩
                        · rw [if_neg c44] at H
                          have c44b0 : (((rd_T49 l0_2 x4_2).f0) == 0) = false := beq_eq_false_iff_ne.mpr c44
                          have c44b1 : (((rd_T49 l0_2 x4_2).f0) != 0) = true := bne_iff_ne.mpr c44
                          (first | rw [c44b0] | (simp only [i64_w, i32_w]; rw [c44b0]) | skip)
                          have H' := Aside0.mk H
                          clear H
                          have hnb48 := NB140_134.out
                          have hnc48 := NB134_140.out
                          have hcz49_0 : w41.cell? ⟨gb140, 0, none⟩ = some (.int .u8 0) := (blk_cell BK140.out 0).trans rfl
                          have hcz49_1 : w41.cell? ⟨gb140, 1, none⟩ = some (.slice none 0 0) := (blk_cell BK140.out 1).trans rfl
                          have hfz49_0 := blk_frozen BK140.out 0
                          have hfz49_1 := blk_frozen BK140.out 1
                          go_wp2
                          repeat (go_quiet (fail); try go_wp2)
                          go_meet
                          case rel => exact ⟨_, (true), (by first | rfl | (simp; done) | (simp [*]; done) | (simp [wrap64]; done)), H', ⟨by have := HJ1.out; have := HK2.out; first | omega | exact Nat.le_refl _⟩, ⟨by (with_reducible repeat (first | apply Kd.R_alloc | apply Kd.R_drewN | apply Kd.R_drew)); exact Kd.R_mono (Kd.R_far (p := ⟨gb140, 1, none⟩) (Kd.R_far (p := ⟨gb140, 0, none⟩) (Kd.R_types HO_3.out BK140.out (by decide)) (fun _ hk => hk.2) (.int .u8 ((rd_T49 l0_2 x4_2).f0))) (fun _ hk => hk.2) (.slice A139_1 ((rd_T49 l0_2 x4_2).f1).length c139_1)) (fun _ hk => trivial)⟩, ⟨by (with_reducible repeat (first | refine blk_drewN ?_ _ | refine blk_drew ?_ | refine blk_alloc ?_ _)); refine blk_far ?_ NB134_140.out _; (with_reducible repeat (first | refine blk_drewN ?_ _ | refine blk_drew ?_ | refine blk_alloc ?_ _)); refine blk_far ?_ NB134_140.out _; (with_reducible repeat (first | refine blk_drewN ?_ _ | refine blk_drew ?_ | refine blk_alloc ?_ _)); exact BK134.out⟩, ⟨by (with_reducible repeat (first | refine blk_drewN ?_ _ | refine blk_drew ?_ | refine blk_alloc ?_ _)); refine blk_put (cs := #[.int .u8 ((rd_T49 l0_2 x4_2).f0), .slice none 0 0]) ?_ 1 _ rfl; (with_reducible repeat (first | refine blk_drewN ?_ _ | refine blk_drew ?_ | refine blk_alloc ?_ _)); refine blk_put (cs := #[.int .u8 0, .slice none 0 0]) ?_ 0 _ rfl; (with_reducible repeat (first | refine blk_drewN ?_ _ | refine blk_drew ?_ | refine blk_alloc ?_ _)); exact BK140.out⟩, ⟨by repeat (first | (with_reducible first | exact HB.out | apply below_alloc | apply pw_below_drewN | apply below_drew1 | refine below_set ?_ GE134.out | refine below_set ?_ GE140.out) | exact HB.out)⟩⟩
                      case rest =>
                        clear HC39
                        try clear c1
                        try clear p1
                        try clear q1
                        try clear hx1
                        try clear c2
                        try clear p2
                        try clear c3
                        try clear c4
                        try clear c4b0
                        try clear c6
                        try clear c6b0
                        try clear p6
                        try clear c8
                        try clear c8b0
                        try clear c10
                        try clear c10b0
                        try clear c12
                        try clear c12b0
                        try clear c12b1
                        try clear c13
                        try clear p13
                        try clear q13
                        try clear hx13
                        try clear c14
                        try clear c14b0
                        try clear c14b1
                        try clear c16
                        try clear c16b0
                        try clear c19
                        try clear c20
                        try clear c20b0
                        try clear c20b1
                        try clear c21
                        try clear c21b0
                        try clear c21b1
                        try clear c25
                        try clear c25b0
                        try clear c26
                        try clear c26b0
                        try clear c27
                        try clear c27b0
                        try clear c27b1
                        try clear c27b2
                        try clear c28
                        try clear c28b0
                        try clear c31
                        try clear c36
                        try clear c39
                        try clear c42
                        try clear c44
                        try clear c44b0
                        try clear c44b1
                        try clear c45
                        try clear c48
                        try clear hcz11_0
                        try clear hcz11_1
                        try clear hcz11_2
                        try clear hcz11_3
                        try clear hcz13_0
                        try clear hcz13_1
                        try clear hcz13_2
                        try clear hcz13_3
                        try clear hcz15_0
                        try clear hcz15_1
                        try clear hcz15_2
                        try clear hcz15_3
                        try clear hcz17_0
                        try clear hcz17_1
                        try clear hcz17_2
                        try clear hcz17_3
                        try clear hcz18_0
                        try clear hcz18_1
                        try clear hcz18_2
                        try clear hcz18_3
                        try clear hcz22_0
                        try clear hcz22_1
                        try clear hcz22_2
                        try clear hcz22_3
                        try clear hcz29_0
                        try clear hcz29_1
                        try clear hcz29_2
                        try clear hcz29_3
                        try clear hcz32_0
                        try clear hcz32_1
                        try clear hcz33_0
                        try clear hcz33_1
                        try clear hcz33_2
                        try clear hcz33_3
                        try clear hcz34_0
                        try clear hcz34_1
                        try clear hcz34_2
                        try clear hcz34_3
                        try clear hcz37_0
                        try clear hcz37_1
                        try clear hcz38_0
                        try clear hcz38_1
                        try clear hcz38_2
                        try clear hcz38_3
                        try clear hcz40_0
                        try clear hcz40_1
                        try clear hcz40_2
                        try clear hcz40_3
                        try clear hcz43_0
                        try clear hcz43_1
                        try clear hcz46_0
                        try clear hcz46_1
                        try clear hcz47_0
                        try clear hcz47_1
                        try clear hcz47_2
                        try clear hcz47_3
                        try clear hcz49_0
                        try clear hcz49_1
                        try clear hcz5_0
                        try clear hcz5_1
                        try clear hcz5_2
                        try clear hcz5_3
                        try clear hcz7_0
                        try clear hcz7_1
                        try clear hcz7_2
                        try clear hcz7_3
                        try clear hcz9_0
                        try clear hcz9_1
                        try clear hcz9_2
                        try clear hcz9_3
                        try clear hfz11_0
                        try clear hfz11_1
                        try clear hfz11_2
                        try clear hfz11_3
                        try clear hfz13_0
                        try clear hfz13_1
                        try clear hfz13_2
                        try clear hfz13_3
                        try clear hfz15_0
                        try clear hfz15_1
                        try clear hfz15_2
                        try clear hfz15_3
                        try clear hfz17_0
                        try clear hfz17_1
                        try clear hfz17_2
                        try clear hfz17_3
                        try clear hfz18_0
                        try clear hfz18_1
                        try clear hfz18_2
                        try clear hfz18_3
                        try clear hfz22_0
                        try clear hfz22_1
                        try clear hfz22_2
                        try clear hfz22_3
                        try clear hfz29_0
                        try clear hfz29_1
                        try clear hfz29_2
                        try clear hfz29_3
                        try clear hfz32_0
                        try clear hfz32_1
                        try clear hfz33_0
                        try clear hfz33_1
                        try clear hfz33_2
                        try clear hfz33_3
                        try clear hfz34_0
                        try clear hfz34_1
                        try clear hfz34_2
                        try clear hfz34_3
                        try clear hfz37_0
                        try clear hfz37_1
                        try clear hfz38_0
                        try clear hfz38_1
                        try clear hfz38_2
                        try clear hfz38_3
                        try clear hfz40_0
                        try clear hfz40_1
                        try clear hfz40_2
                        try clear hfz40_3
                        try clear hfz43_0
                        try clear hfz43_1
                        try clear hfz46_0
                        try clear hfz46_1
                        try clear hfz47_0
                        try clear hfz47_1
                        try clear hfz47_2
                        try clear hfz47_3
                        try clear hfz49_0
                        try clear hfz49_1
                        try clear hfz5_0
                        try clear hfz5_1
                        try clear hfz5_2
                        try clear hfz5_3
                        try clear hfz7_0
                        try clear hfz7_1
                        try clear hfz7_2
                        try clear hfz7_3
                        try clear hfz9_0
                        try clear hfz9_1
                        try clear hfz9_2
                        try clear hfz9_3
                        try clear hx139_0
                        try clear hx139_1
                        try clear p139
                        try clear p2
                        try clear q139
                        obtain ⟨kq, x86_38, rfl, HA, HJ38, HO_3, BK134, BK140, HB⟩ := hcut
                        cases kq with
                        | zero => exact absurd HA.out (by simp [vivariumref11_Check.j2])
                        | succ kj38 =>
                          have H := HA.out
                          clear HA
                          simp only [vivariumref11_Check.j2] at H
                          by_cases c50 : x86_38 = true
                          · subst c50
                            have H1 : (some 110) = some r := by rw [if_pos rfl] at H; exact H
                            clear H
                            have H := H1
                            clear H1
                            obtain rfl := Option.some.inj H
                            go_wp2
                            repeat (go_quiet (fail); try go_wp2)
                            go_ret
                            exact ⟨by first | rfl | (simp [errW_none, errW_some] <;> rfl) | (simp [*, errW_none, errW_some] <;> rfl), by repeat (first | (with_reducible first | exact HB.out | apply below_alloc | apply pw_below_drewN | apply below_drew1 | refine below_set ?_ GE134.out | refine below_set ?_ GE140.out) | exact HB.out)⟩
                          · replace c50 := Bool.eq_false_iff.mpr c50
                            subst c50
                            have H1 : (vivariumref11_Check.l1 kj38 x3_2 x4_2 0 a0_0 a0_1 l0_2 a0_3 ((rd_T49 l0_2 x4_2).f0) ((rd_T49 l0_2 x4_2).f1)) = some r := by rw [if_neg (show ¬ (false = true) by decide)] at H; exact H
                            clear H
                            have H := H1
                            clear H1
                            have H' := Aside0.mk H
                            clear H
                            go_wp2
                            repeat (go_quiet (fail); try go_wp2)
                            go_loopg [6] kj38 (fun kq v6 w' => ∃ (x6_4 : Int), v6 = .int .i64 x6_4 ∧ Aside0 (vivariumref11_Check.l1 kq x3_2 x4_2 x6_4 a0_0 a0_1 l0_2 a0_3 ((rd_T49 l0_2 x4_2).f0) ((rd_T49 l0_2 x4_2).f1) = some r) ∧ Aside0 (kq ≤ kj38) ∧ Aside0 (Kd.R (Kd.int .i64) 3 w' w.heap.size (fun _ => True) v136 x3_2) ∧ Aside0 (w'.heap[gb134]? = some (.cells #[.int .i64 a0_0, .int .i64 a0_1, (.slice (some ad139) l0_2.length c0_2), .int .i64 a0_3] 24 (0, 0))) ∧ Aside0 (w'.heap[gb140]? = some (.cells #[.int .u8 ((rd_T49 l0_2 x4_2).f0), (.slice A139_1 ((rd_T49 l0_2 x4_2).f1).length c139_1)] 49 (0, 0))) ∧ Aside0 (Below w.heap.size w w'))
                            case atStart => exact ⟨(0), (by first | rfl | (simp; done) | (simp [*]; done) | (simp [wrap64]; done)), H', ⟨Nat.le_refl _⟩, ⟨by (with_reducible repeat (first | apply Kd.R_alloc | apply Kd.R_drewN | apply Kd.R_drew)); exact HO_3.out⟩, ⟨by (with_reducible repeat (first | refine blk_drewN ?_ _ | refine blk_drew ?_ | refine blk_alloc ?_ _)); exact BK134.out⟩, ⟨by (with_reducible repeat (first | refine blk_drewN ?_ _ | refine blk_drew ?_ | refine blk_alloc ?_ _)); exact BK140.out⟩, ⟨by repeat (first | (with_reducible first | exact HB.out | apply below_alloc | apply pw_below_drewN | apply below_drew1 | refine below_set ?_ GE134.out | refine below_set ?_ GE140.out) | exact HB.out)⟩⟩
                            case round =>
                              clear H'
                              try clear c1
                              try clear p1
                              try clear q1
                              try clear hx1
                              try clear c2
                              try clear p2
                              try clear c3
                              try clear c4
                              try clear c4b0
                              try clear c5
                              try clear c6
                              try clear c6b0
                              try clear p6
                              try clear c8
                              try clear c8b0
                              try clear c10
                              try clear c10b0
                              try clear c12
                              try clear c12b0
                              try clear c12b1
                              try clear c13
                              try clear p13
                              try clear q13
                              try clear hx13
                              try clear c14
                              try clear c14b0
                              try clear c14b1
                              try clear c16
                              try clear c16b0
                              try clear c19
                              try clear c20
                              try clear c20b0
                              try clear c20b1
                              try clear c21
                              try clear c21b0
                              try clear c21b1
                              try clear c25
                              try clear c25b0
                              try clear c26
                              try clear c26b0
                              try clear c27
                              try clear c27b0
                              try clear c27b1
                              try clear c27b2
                              try clear c28
                              try clear c28b0
                              try clear c31
                              try clear c36
                              try clear c39
                              try clear c42
                              try clear c44
                              try clear c44b0
                              try clear c44b1
                              try clear c45
                              try clear c48
                              try clear c50
                              try clear hcz11_0
                              try clear hcz11_1
                              try clear hcz11_2
                              try clear hcz11_3
                              try clear hcz13_0
                              try clear hcz13_1
                              try clear hcz13_2
                              try clear hcz13_3
                              try clear hcz15_0
                              try clear hcz15_1
                              try clear hcz15_2
                              try clear hcz15_3
                              try clear hcz17_0
                              try clear hcz17_1
                              try clear hcz17_2
                              try clear hcz17_3
                              try clear hcz18_0
                              try clear hcz18_1
                              try clear hcz18_2
                              try clear hcz18_3
                              try clear hcz22_0
                              try clear hcz22_1
                              try clear hcz22_2
                              try clear hcz22_3
                              try clear hcz29_0
                              try clear hcz29_1
                              try clear hcz29_2
                              try clear hcz29_3
                              try clear hcz32_0
                              try clear hcz32_1
                              try clear hcz33_0
                              try clear hcz33_1
                              try clear hcz33_2
                              try clear hcz33_3
                              try clear hcz34_0
                              try clear hcz34_1
                              try clear hcz34_2
                              try clear hcz34_3
                              try clear hcz37_0
                              try clear hcz37_1
                              try clear hcz38_0
                              try clear hcz38_1
                              try clear hcz38_2
                              try clear hcz38_3
                              try clear hcz40_0
                              try clear hcz40_1
                              try clear hcz40_2
                              try clear hcz40_3
                              try clear hcz43_0
                              try clear hcz43_1
                              try clear hcz46_0
                              try clear hcz46_1
                              try clear hcz47_0
                              try clear hcz47_1
                              try clear hcz47_2
                              try clear hcz47_3
                              try clear hcz49_0
                              try clear hcz49_1
                              try clear hcz5_0
                              try clear hcz5_1
                              try clear hcz5_2
                              try clear hcz5_3
                              try clear hcz7_0
                              try clear hcz7_1
                              try clear hcz7_2
                              try clear hcz7_3
                              try clear hcz9_0
                              try clear hcz9_1
                              try clear hcz9_2
                              try clear hcz9_3
                              try clear hfz11_0
                              try clear hfz11_1
                              try clear hfz11_2
                              try clear hfz11_3
                              try clear hfz13_0
                              try clear hfz13_1
                              try clear hfz13_2
                              try clear hfz13_3
                              try clear hfz15_0
                              try clear hfz15_1
                              try clear hfz15_2
                              try clear hfz15_3
                              try clear hfz17_0
                              try clear hfz17_1
                              try clear hfz17_2
                              try clear hfz17_3
                              try clear hfz18_0
                              try clear hfz18_1
                              try clear hfz18_2
                              try clear hfz18_3
                              try clear hfz22_0
                              try clear hfz22_1
                              try clear hfz22_2
                              try clear hfz22_3
                              try clear hfz29_0
                              try clear hfz29_1
                              try clear hfz29_2
                              try clear hfz29_3
                              try clear hfz32_0
                              try clear hfz32_1
                              try clear hfz33_0
                              try clear hfz33_1
                              try clear hfz33_2
                              try clear hfz33_3
                              try clear hfz34_0
                              try clear hfz34_1
                              try clear hfz34_2
                              try clear hfz34_3
                              try clear hfz37_0
                              try clear hfz37_1
                              try clear hfz38_0
                              try clear hfz38_1
                              try clear hfz38_2
                              try clear hfz38_3
                              try clear hfz40_0
                              try clear hfz40_1
                              try clear hfz40_2
                              try clear hfz40_3
                              try clear hfz43_0
                              try clear hfz43_1
                              try clear hfz46_0
                              try clear hfz46_1
                              try clear hfz47_0
                              try clear hfz47_1
                              try clear hfz47_2
                              try clear hfz47_3
                              try clear hfz49_0
                              try clear hfz49_1
                              try clear hfz5_0
                              try clear hfz5_1
                              try clear hfz5_2
                              try clear hfz5_3
                              try clear hfz7_0
                              try clear hfz7_1
                              try clear hfz7_2
                              try clear hfz7_3
                              try clear hfz9_0
                              try clear hfz9_1
                              try clear hfz9_2
                              try clear hfz9_3
                              try clear hx139_0
                              try clear hx139_1
                              try clear p1
                              try clear p13
                              try clear p139
                              try clear p2
                              try clear p6
                              try clear q1
                              try clear q13
                              try clear q139
                              obtain ⟨x6_4, rfl, HA, HK4, HO_3, BK134, BK140, HB⟩ := hrel
                              cases gk with
                              | zero => exact absurd HA.out (by simp [vivariumref11_Check.l1])
                              | succ k4 =>
                                have H := HA.out
                                clear HA
                                simp only [vivariumref11_Check.l1] at H
                                by_cases c51 : x6_4 < (((rd_T49 l0_2 x4_2).f1).length : Int)
                                · rw [if_pos c51] at H
                                  have c51b0 : decide (x6_4 < (((rd_T49 l0_2 x4_2).f1).length : Int)) = true := decide_eq_true c51
                                  clear c51
                                  by_cases c52 : 0 ≤ x6_4
                                  · rw [if_pos c52] at H
                                    have c52b0 : decide (0 ≤ x6_4) = true := decide_eq_true c52
                                    clear c52
                                    by_cases c53 : (rd ((rd_T49 l0_2 x4_2).f1) x6_4) < 0
                                    · rw [if_pos c53] at H
                                      have c53b0 : decide ((rd ((rd_T49 l0_2 x4_2).f1) x6_4) < 0) = true := decide_eq_true c53
                                      clear c53
                                      obtain rfl := Option.some.inj H
                                      have hnb54 := NB140_134.out
                                      have hnc54 := NB134_140.out
                                      have hcz55_0 : wr.cell? ⟨gb140, 0, none⟩ = some (.int .u8 ((rd_T49 l0_2 x4_2).f0)) := (blk_cell BK140.out 0).trans rfl
                                      have hcz55_1 : wr.cell? ⟨gb140, 1, none⟩ = some (.slice A139_1 ((rd_T49 l0_2 x4_2).f1).length c139_1) := (blk_cell BK140.out 1).trans rfl
                                      have hfz55_0 := blk_frozen BK140.out 0
                                      have hfz55_1 := blk_frozen BK140.out 1
                                      have p141 : 0 ≤ (x6_4 : Int) := of_decide_eq_true (by first | (with_reducible assumption) | assumption)
                                      have q141 : x6_4 < (((rd_T49 l0_2 x4_2).f1).length : Int) := of_decide_eq_true (by first | (with_reducible assumption) | assumption)
                                      obtain ⟨ad141, e141, hx141_0⟩ := Kd.at_int HR139_1.out x6_4 p141 q141
                                      cases e141
                                      replace hx141_0 := (HB.out.cell (World.block_lt_of_cell? w _ hx141_0)).trans hx141_0
                                      replace p141 := eq_true p141
                                      replace q141 := eq_true q141
                                      go_wp2
                                      repeat (go_quiet (fail); try go_wp2)
                                      go_ret
                                      exact ⟨by first | rfl | (simp [errW_none, errW_some] <;> rfl) | (simp [*, errW_none, errW_some] <;> rfl), by repeat (first | (with_reducible first | exact HB.out | apply below_alloc | apply pw_below_drewN | apply below_drew1 | refine below_set ?_ GE134.out | refine below_set ?_ GE140.out) | exact HB.out)⟩
                                    · rw [if_neg c53] at H
                                      have c53b0 : decide ((rd ((rd_T49 l0_2 x4_2).f1) x6_4) < 0) = false := decide_eq_false c53
                                      clear c53
                                      by_cases c56 : (rd ((rd_T49 l0_2 x4_2).f1) x6_4) ≥ x4_2
                                      · rw [if_pos c56] at H
                                        have c56b0 : decide (x4_2 ≤ (rd ((rd_T49 l0_2 x4_2).f1) x6_4)) = true := decide_eq_true c56
                                        clear c56
                                        obtain rfl := Option.some.inj H
                                        have hnb57 := NB140_134.out
                                        have hnc57 := NB134_140.out
                                        have hcz58_0 : wr.cell? ⟨gb140, 0, none⟩ = some (.int .u8 ((rd_T49 l0_2 x4_2).f0)) := (blk_cell BK140.out 0).trans rfl
                                        have hcz58_1 : wr.cell? ⟨gb140, 1, none⟩ = some (.slice A139_1 ((rd_T49 l0_2 x4_2).f1).length c139_1) := (blk_cell BK140.out 1).trans rfl
                                        have hfz58_0 := blk_frozen BK140.out 0
                                        have hfz58_1 := blk_frozen BK140.out 1
                                        have p141 : 0 ≤ (x6_4 : Int) := of_decide_eq_true (by first | (with_reducible assumption) | assumption)
                                        have q141 : x6_4 < (((rd_T49 l0_2 x4_2).f1).length : Int) := of_decide_eq_true (by first | (with_reducible assumption) | assumption)
                                        obtain ⟨ad141, e141, hx141_0⟩ := Kd.at_int HR139_1.out x6_4 p141 q141
                                        cases e141
                                        replace hx141_0 := (HB.out.cell (World.block_lt_of_cell? w _ hx141_0)).trans hx141_0
                                        replace p141 := eq_true p141
                                        replace q141 := eq_true q141
                                        have p142 : 0 ≤ (x6_4 : Int) := of_decide_eq_true (by first | (with_reducible assumption) | assumption)
                                        have q142 : x6_4 < (((rd_T49 l0_2 x4_2).f1).length : Int) := of_decide_eq_true (by first | (with_reducible assumption) | assumption)
                                        obtain ⟨ad142, e142, hx142_0⟩ := Kd.at_int HR139_1.out x6_4 p142 q142
                                        obtain rfl : ad141 = ad142 := (by injection e142)
                                        replace hx142_0 := (HB.out.cell (World.block_lt_of_cell? w _ hx142_0)).trans hx142_0
                                        replace p142 := eq_true p142
                                        replace q142 := eq_true q142
                                        go_wp2
                                        repeat (go_quiet (fail); try go_wp2)
                                        go_ret
                                        exact ⟨by first | rfl | (simp [errW_none, errW_some] <;> rfl) | (simp [*, errW_none, errW_some] <;> rfl), by repeat (first | (with_reducible first | exact HB.out | apply below_alloc | apply pw_below_drewN | apply below_drew1 | refine below_set ?_ GE134.out | refine below_set ?_ GE140.out) | exact HB.out)⟩
                                      · rw [if_neg c56] at H
                                        have c56b0 : decide (x4_2 ≤ (rd ((rd_T49 l0_2 x4_2).f1) x6_4)) = false := decide_eq_false c56
                                        clear c56
                                        by_cases c59 : 0 ≤ (rd ((rd_T49 l0_2 x4_2).f1) x6_4)
                                        · rw [if_pos c59] at H
                                          have c59b0 : decide (0 ≤ (rd ((rd_T49 l0_2 x4_2).f1) x6_4)) = true := decide_eq_true c59
                                          clear c59
                                          by_cases c60 : (rd ((rd_T49 l0_2 x4_2).f1) x6_4) < (x3_2.length : Int)
                                          · rw [if_pos c60] at H
                                            have c60b0 : decide ((rd ((rd_T49 l0_2 x4_2).f1) x6_4) < (x3_2.length : Int)) = true := decide_eq_true c60
                                            clear c60
                                            by_cases c61 : 0 < (((rd_T49 l0_2 x4_2).f1).length : Int)
                                            · rw [if_pos c61] at H
                                              have c61b0 : decide (0 < (((rd_T49 l0_2 x4_2).f1).length : Int)) = true := decide_eq_true c61
                                              have c61b1 : decide (0 < ((rd_T49 l0_2 x4_2).f1).length) = true := decide_eq_true (by omega)
                                              clear c61
                                              obtain ⟨ji62, hji62⟩ : ∃ j_ : Int, (mx (rd ((rd_T49 l0_2 x4_2).f1) 0) 0) = j_ := ⟨_, rfl⟩
                                              replace H : (if 0 ≤ (ji62) then (if (ji62) < (x3_2.length : Int) then (if (rd x3_2 (rd ((rd_T49 l0_2 x4_2).f1) x6_4)) = (rd x3_2 (ji62)) then (vivariumref11_Check.l1 k4 x3_2 x4_2 (wrap64 (x6_4 + 1)) a0_0 a0_1 l0_2 a0_3 ((rd_T49 l0_2 x4_2).f0) ((rd_T49 l0_2 x4_2).f1)) else (some 110)) else (none)) else (none)) = some r := by first | (rw [hji62] at H; exact H) | (simp only [hji62] at H ⊢; exact H)
                                              have hji62_ : (if (rd ((rd_T49 l0_2 x4_2).f1) 0) < 0 then 0 else (rd ((rd_T49 l0_2 x4_2).f1) 0)) = ji62 := hji62
                                              by_cases c63 : 0 ≤ (ji62)
                                              · rw [if_pos c63] at H
                                                have c63b0 : decide (0 ≤ (ji62)) = true := decide_eq_true c63
                                                clear c63
                                                by_cases c64 : (ji62) < (x3_2.length : Int)
                                                · rw [if_pos c64] at H
                                                  have c64b0 : decide ((ji62) < (x3_2.length : Int)) = true := decide_eq_true c64
                                                  clear c64
                                                  by_cases c65 : (rd x3_2 (rd ((rd_T49 l0_2 x4_2).f1) x6_4)) = (rd x3_2 (ji62))
                                                  · rw [if_pos c65] at H
                                                    have c65b0 : ((rd x3_2 (rd ((rd_T49 l0_2 x4_2).f1) x6_4)) == (rd x3_2 (ji62))) = true := beq_iff_eq.mpr c65
                                                    have c65b1 : ((rd x3_2 (rd ((rd_T49 l0_2 x4_2).f1) x6_4)) != (rd x3_2 (ji62))) = false := bne_eq_false_iff_eq.mpr c65
                                                    clear c65
                                                    have H' := Aside0.mk H
                                                    clear H
                                                    have hnb66 := NB140_134.out
                                                    have hnc66 := NB134_140.out
                                                    have hcz67_0 : wr.cell? ⟨gb140, 0, none⟩ = some (.int .u8 ((rd_T49 l0_2 x4_2).f0)) := (blk_cell BK140.out 0).trans rfl
                                                    have hcz67_1 : wr.cell? ⟨gb140, 1, none⟩ = some (.slice A139_1 ((rd_T49 l0_2 x4_2).f1).length c139_1) := (blk_cell BK140.out 1).trans rfl
                                                    have hfz67_0 := blk_frozen BK140.out 0
                                                    have hfz67_1 := blk_frozen BK140.out 1
                                                    have p141 : 0 ≤ (x6_4 : Int) := of_decide_eq_true (by first | (with_reducible assumption) | assumption)
                                                    have q141 : x6_4 < (((rd_T49 l0_2 x4_2).f1).length : Int) := of_decide_eq_true (by first | (with_reducible assumption) | assumption)
                                                    obtain ⟨ad141, e141, hx141_0⟩ := Kd.at_int HR139_1.out x6_4 p141 q141
                                                    cases e141
                                                    replace hx141_0 := (HB.out.cell (World.block_lt_of_cell? w _ hx141_0)).trans hx141_0
                                                    replace p141 := eq_true p141
                                                    replace q141 := eq_true q141
                                                    have p142 : 0 ≤ (x6_4 : Int) := of_decide_eq_true (by first | (with_reducible assumption) | assumption)
                                                    have q142 : x6_4 < (((rd_T49 l0_2 x4_2).f1).length : Int) := of_decide_eq_true (by first | (with_reducible assumption) | assumption)
                                                    obtain ⟨ad142, e142, hx142_0⟩ := Kd.at_int HR139_1.out x6_4 p142 q142
                                                    obtain rfl : ad141 = ad142 := (by injection e142)
                                                    replace hx142_0 := (HB.out.cell (World.block_lt_of_cell? w _ hx142_0)).trans hx142_0
                                                    replace p142 := eq_true p142
                                                    replace q142 := eq_true q142
                                                    have p143 : 0 ≤ (x6_4 : Int) := of_decide_eq_true (by first | (with_reducible assumption) | assumption)
                                                    have q143 : x6_4 < (((rd_T49 l0_2 x4_2).f1).length : Int) := of_decide_eq_true (by first | (with_reducible assumption) | assumption)
                                                    obtain ⟨ad143, e143, hx143_0⟩ := Kd.at_int HR139_1.out x6_4 p143 q143
                                                    obtain rfl : ad141 = ad143 := (by injection e143)
                                                    replace hx143_0 := (HB.out.cell (World.block_lt_of_cell? w _ hx143_0)).trans hx143_0
                                                    replace p143 := eq_true p143
                                                    replace q143 := eq_true q143
                                                    obtain ⟨Ao68, co68, eo68⟩ := Kd.R_slice HO_3.out
                                                    subst eo68
                                                    have p144 : 0 ≤ ((rd ((rd_T49 l0_2 x4_2).f1) x6_4) : Int) := of_decide_eq_true (by first | (with_reducible assumption) | assumption)
                                                    have q144 : (rd ((rd_T49 l0_2 x4_2).f1) x6_4) < (x3_2.length : Int) := of_decide_eq_true (by first | (with_reducible assumption) | assumption)
                                                    obtain ⟨ad144, e144, hx144_0⟩ := Kd.at_int (Kd.R_reads' HO_3.out).2.2 (rd ((rd_T49 l0_2 x4_2).f1) x6_4) p144 q144
                                                    cases e144
                                                    replace p144 := eq_true p144
                                                    replace q144 := eq_true q144
                                                    have p145 : 0 ≤ (0 : Int) := (by omega)
                                                    have q145 : 0 < (((rd_T49 l0_2 x4_2).f1).length : Int) := of_decide_eq_true (by first | (with_reducible assumption) | assumption)
                                                    obtain ⟨ad145, e145, hx145_0⟩ := Kd.at_int HR139_1.out 0 p145 q145
                                                    obtain rfl : ad141 = ad145 := (by injection e145)
                                                    have qi145 : (0 < ((rd_T49 l0_2 x4_2).f1).length) = True := eq_true (by omega)
                                                    (try rw [show ((0 : Int)).toNat = 0 from rfl] at hx145_0)
                                                    (try rw [Addr.add_zero'] at hx145_0)
                                                    replace hx145_0 := (HB.out.cell (World.block_lt_of_cell? w _ hx145_0)).trans hx145_0
                                                    replace p145 := eq_true p145
                                                    replace q145 := eq_true q145
                                                    have p146 : 0 ≤ ((ji62) : Int) := of_decide_eq_true (by first | (with_reducible assumption) | assumption)
                                                    have q146 : (ji62) < (x3_2.length : Int) := of_decide_eq_true (by first | (with_reducible assumption) | assumption)
                                                    obtain ⟨ad146, e146, hx146_0⟩ := Kd.at_int (Kd.R_reads' HO_3.out).2.2 (ji62) p146 q146
                                                    obtain rfl : ad144 = ad146 := (by injection e146)
                                                    replace p146 := eq_true p146
                                                    replace q146 := eq_true q146
                                                    go_wp2
                                                    repeat (go_quiet (fail); try go_wp2)
                                                    go_roundg k4
                                                    case measure => have := HJ1.out; have := HK2.out; have := HJ38.out; have := HK4.out; omega
                                                    case rel => exact ⟨(wrap64 (x6_4 + 1)), (by first | rfl | (simp; done) | (simp [*]; done) | (simp [wrap64]; done)), H', ⟨by have := HJ1.out; have := HK2.out; have := HJ38.out; have := HK4.out; omega⟩, ⟨by (with_reducible repeat (first | apply Kd.R_alloc | apply Kd.R_drewN | apply Kd.R_drew)); exact HO_3.out⟩, ⟨by (with_reducible repeat (first | refine blk_drewN ?_ _ | refine blk_drew ?_ | refine blk_alloc ?_ _)); exact BK134.out⟩, ⟨by (with_reducible repeat (first | refine blk_drewN ?_ _ | refine blk_drew ?_ | refine blk_alloc ?_ _)); exact BK140.out⟩, ⟨by repeat (first | (with_reducible first | exact HB.out | apply below_alloc | apply pw_below_drewN | apply below_drew1 | refine below_set ?_ GE134.out | refine below_set ?_ GE140.out) | exact HB.out)⟩⟩
                                                  · rw [if_neg c65] at H
                                                    have c65b0 : ((rd x3_2 (rd ((rd_T49 l0_2 x4_2).f1) x6_4)) == (rd x3_2 (ji62))) = false := beq_eq_false_iff_ne.mpr c65
                                                    have c65b1 : ((rd x3_2 (rd ((rd_T49 l0_2 x4_2).f1) x6_4)) != (rd x3_2 (ji62))) = true := bne_iff_ne.mpr c65
                                                    obtain rfl := Option.some.inj H
                                                    have hnb69 := NB140_134.out
                                                    have hnc69 := NB134_140.out
                                                    have hcz70_0 : wr.cell? ⟨gb140, 0, none⟩ = some (.int .u8 ((rd_T49 l0_2 x4_2).f0)) := (blk_cell BK140.out 0).trans rfl
                                                    have hcz70_1 : wr.cell? ⟨gb140, 1, none⟩ = some (.slice A139_1 ((rd_T49 l0_2 x4_2).f1).length c139_1) := (blk_cell BK140.out 1).trans rfl
                                                    have hfz70_0 := blk_frozen BK140.out 0
                                                    have hfz70_1 := blk_frozen BK140.out 1
                                                    have p141 : 0 ≤ (x6_4 : Int) := of_decide_eq_true (by first | (with_reducible assumption) | assumption)
                                                    have q141 : x6_4 < (((rd_T49 l0_2 x4_2).f1).length : Int) := of_decide_eq_true (by first | (with_reducible assumption) | assumption)
                                                    obtain ⟨ad141, e141, hx141_0⟩ := Kd.at_int HR139_1.out x6_4 p141 q141
                                                    cases e141
                                                    replace hx141_0 := (HB.out.cell (World.block_lt_of_cell? w _ hx141_0)).trans hx141_0
                                                    replace p141 := eq_true p141
                                                    replace q141 := eq_true q141
                                                    have p142 : 0 ≤ (x6_4 : Int) := of_decide_eq_true (by first | (with_reducible assumption) | assumption)
                                                    have q142 : x6_4 < (((rd_T49 l0_2 x4_2).f1).length : Int) := of_decide_eq_true (by first | (with_reducible assumption) | assumption)
                                                    obtain ⟨ad142, e142, hx142_0⟩ := Kd.at_int HR139_1.out x6_4 p142 q142
                                                    obtain rfl : ad141 = ad142 := (by injection e142)
                                                    replace hx142_0 := (HB.out.cell (World.block_lt_of_cell? w _ hx142_0)).trans hx142_0
                                                    replace p142 := eq_true p142
                                                    replace q142 := eq_true q142
                                                    have p143 : 0 ≤ (x6_4 : Int) := of_decide_eq_true (by first | (with_reducible assumption) | assumption)
                                                    have q143 : x6_4 < (((rd_T49 l0_2 x4_2).f1).length : Int) := of_decide_eq_true (by first | (with_reducible assumption) | assumption)
                                                    obtain ⟨ad143, e143, hx143_0⟩ := Kd.at_int HR139_1.out x6_4 p143 q143
                                                    obtain rfl : ad141 = ad143 := (by injection e143)
                                                    replace hx143_0 := (HB.out.cell (World.block_lt_of_cell? w _ hx143_0)).trans hx143_0
                                                    replace p143 := eq_true p143
                                                    replace q143 := eq_true q143
                                                    obtain ⟨Ao71, co71, eo71⟩ := Kd.R_slice HO_3.out
                                                    subst eo71
                                                    have p144 : 0 ≤ ((rd ((rd_T49 l0_2 x4_2).f1) x6_4) : Int) := of_decide_eq_true (by first | (with_reducible assumption) | assumption)
                                                    have q144 : (rd ((rd_T49 l0_2 x4_2).f1) x6_4) < (x3_2.length : Int) := of_decide_eq_true (by first | (with_reducible assumption) | assumption)
                                                    obtain ⟨ad144, e144, hx144_0⟩ := Kd.at_int (Kd.R_reads' HO_3.out).2.2 (rd ((rd_T49 l0_2 x4_2).f1) x6_4) p144 q144
                                                    cases e144
                                                    replace p144 := eq_true p144
                                                    replace q144 := eq_true q144
                                                    have p145 : 0 ≤ (0 : Int) := (by omega)
                                                    have q145 : 0 < (((rd_T49 l0_2 x4_2).f1).length : Int) := of_decide_eq_true (by first | (with_reducible assumption) | assumption)
                                                    obtain ⟨ad145, e145, hx145_0⟩ := Kd.at_int HR139_1.out 0 p145 q145
                                                    obtain rfl : ad141 = ad145 := (by injection e145)
                                                    have qi145 : (0 < ((rd_T49 l0_2 x4_2).f1).length) = True := eq_true (by omega)
                                                    (try rw [show ((0 : Int)).toNat = 0 from rfl] at hx145_0)
                                                    (try rw [Addr.add_zero'] at hx145_0)
                                                    replace hx145_0 := (HB.out.cell (World.block_lt_of_cell? w _ hx145_0)).trans hx145_0
                                                    replace p145 := eq_true p145
                                                    replace q145 := eq_true q145
                                                    have p146 : 0 ≤ ((ji62) : Int) := of_decide_eq_true (by first | (with_reducible assumption) | assumption)
                                                    have q146 : (ji62) < (x3_2.length : Int) := of_decide_eq_true (by first | (with_reducible assumption) | assumption)
                                                    obtain ⟨ad146, e146, hx146_0⟩ := Kd.at_int (Kd.R_reads' HO_3.out).2.2 (ji62) p146 q146
                                                    obtain rfl : ad144 = ad146 := (by injection e146)
                                                    replace p146 := eq_true p146
                                                    replace q146 := eq_true q146
                                                    go_wp2
                                                    repeat (go_quiet (fail); try go_wp2)
                                                    go_ret
                                                    exact ⟨by first | rfl | (simp [errW_none, errW_some] <;> rfl) | (simp only [← hji62]; first | rfl | (simp [errW_none, errW_some] <;> rfl)) | (simp [*, errW_none, errW_some] <;> rfl), by repeat (first | (with_reducible first | exact HB.out | apply below_alloc | apply pw_below_drewN | apply below_drew1 | refine below_set ?_ GE134.out | refine below_set ?_ GE140.out) | exact HB.out)⟩
                                                · rw [if_neg c64] at H
                                                  exact absurd H (by simp)
                                              · rw [if_neg c63] at H
                                                exact absurd H (by simp)
                                            · rw [if_neg c61] at H
                                              exact absurd H (by simp)
                                          · rw [if_neg c60] at H
                                            exact absurd H (by simp)
                                        · rw [if_neg c59] at H
                                          exact absurd H (by simp)
                                  · rw [if_neg c52] at H
                                    exact absurd H (by simp)
                                · rw [if_neg c51] at H
                                  have c51b0 : decide (x6_4 < (((rd_T49 l0_2 x4_2).f1).length : Int)) = false := decide_eq_false c51
                                  clear c51
                                  by_cases c72 : 0 < (((rd_T49 l0_2 x4_2).f1).length : Int)
                                  · rw [if_pos c72] at H
                                    have c72b0 : decide (0 < (((rd_T49 l0_2 x4_2).f1).length : Int)) = true := decide_eq_true c72
                                    have c72b1 : decide (0 < ((rd_T49 l0_2 x4_2).f1).length) = true := decide_eq_true (by omega)
                                    clear c72
                                    by_cases c73 : 0 ≤ (rd ((rd_T49 l0_2 x4_2).f1) 0)
                                    · rw [if_pos c73] at H
                                      have c73b0 : decide (0 ≤ (rd ((rd_T49 l0_2 x4_2).f1) 0)) = true := decide_eq_true c73
                                      clear c73
                                      by_cases c74 : (rd ((rd_T49 l0_2 x4_2).f1) 0) < (x3_2.length : Int)
                                      · rw [if_pos c74] at H
                                        have c74b0 : decide ((rd ((rd_T49 l0_2 x4_2).f1) 0) < (x3_2.length : Int)) = true := decide_eq_true c74
                                        clear c74
                                        by_cases c75 : 0 ≤ x4_2
                                        · rw [if_pos c75] at H
                                          have c75b0 : decide (0 ≤ x4_2) = true := decide_eq_true c75
                                          clear c75
                                          by_cases c76 : x4_2 < (x3_2.length : Int)
                                          · rw [if_pos c76] at H
                                            have c76b0 : decide (x4_2 < (x3_2.length : Int)) = true := decide_eq_true c76
                                            clear c76
                                            obtain ⟨y149, hy149⟩ : ∃ y_ : List Int, y_ = (x3_2.set (x4_2 : Int).toNat (wrap64 ((rd x3_2 (rd ((rd_T49 l0_2 x4_2).f1) 0)) + 1))) := ⟨_, rfl⟩
                                            replace H : (vivariumref11_Check.l0 k4 y149 (wrap64 (x4_2 + 1)) a0_0 a0_1 l0_2 a0_3) = some r := by first | (rw [hy149]; with_reducible exact H) | (have H2_ := (Option.bind_some _ _).symm.trans H; rw [hy149]; with_reducible exact H2_) | (have H2_ := (Option.bind_some _ _).symm.trans H; with_reducible exact H2_) | with_reducible exact H | (rw [hy149]; exact H) | exact H
                                            have Ny149 := Aside0.mk hy149
                                            clear hy149
                                            have H' := Aside0.mk H
                                            clear H
                                            have hnb78 := NB140_134.out
                                            have hnc78 := NB134_140.out
                                            have hcz79_0 : wr.cell? ⟨gb140, 0, none⟩ = some (.int .u8 ((rd_T49 l0_2 x4_2).f0)) := (blk_cell BK140.out 0).trans rfl
                                            have hcz79_1 : wr.cell? ⟨gb140, 1, none⟩ = some (.slice A139_1 ((rd_T49 l0_2 x4_2).f1).length c139_1) := (blk_cell BK140.out 1).trans rfl
                                            have hfz79_0 := blk_frozen BK140.out 0
                                            have hfz79_1 := blk_frozen BK140.out 1
                                            have p147 : 0 ≤ (0 : Int) := (by omega)
                                            have q147 : 0 < (((rd_T49 l0_2 x4_2).f1).length : Int) := of_decide_eq_true (by first | (with_reducible assumption) | assumption)
                                            obtain ⟨ad147, e147, hx147_0⟩ := Kd.at_int HR139_1.out 0 p147 q147
                                            cases e147
                                            have qi147 : (0 < ((rd_T49 l0_2 x4_2).f1).length) = True := eq_true (by omega)
                                            (try rw [show ((0 : Int)).toNat = 0 from rfl] at hx147_0)
                                            (try rw [Addr.add_zero'] at hx147_0)
                                            replace hx147_0 := (HB.out.cell (World.block_lt_of_cell? w _ hx147_0)).trans hx147_0
                                            replace p147 := eq_true p147
                                            replace q147 := eq_true q147
                                            obtain ⟨Ao80, co80, eo80⟩ := Kd.R_slice HO_3.out
                                            subst eo80
                                            have p148 : 0 ≤ ((rd ((rd_T49 l0_2 x4_2).f1) 0) : Int) := of_decide_eq_true (by first | (with_reducible assumption) | assumption)
                                            have q148 : (rd ((rd_T49 l0_2 x4_2).f1) 0) < (x3_2.length : Int) := of_decide_eq_true (by first | (with_reducible assumption) | assumption)
                                            obtain ⟨ad148, e148, hx148_0⟩ := Kd.at_int (Kd.R_reads' HO_3.out).2.2 (rd ((rd_T49 l0_2 x4_2).f1) 0) p148 q148
                                            cases e148
                                            replace p148 := eq_true p148
                                            replace q148 := eq_true q148
                                            have p77 : 0 ≤ (x4_2 : Int) := of_decide_eq_true (by first | (with_reducible assumption) | assumption)
                                            have q77 : (x4_2 : Int) < ((x3_2.length : Int) : Int) := of_decide_eq_true (by first | (with_reducible assumption) | assumption)
                                            obtain ⟨go77, co77, eo77, gb77, gl77, cl77, HG77⟩ := Kd.R_form HO_3.out (by omega)
                                            (first | cases eo77 | (injection eo77 with ea_ en_ ec_; (first | subst ea_ | (injection ea_ with ea_; subst ea_)); subst ec_; clear en_))
                                            have GB77 := Aside0.mk gb77
                                            have GG77 := Aside0.mk HG77
                                            clear gb77 gl77 HG77
                                            (first | simp only [add_plain] at hx148_0 | skip)
                                            obtain ⟨hx77_0, hf77_0⟩ := Kd.R_celln 0 HO_3.out (x4_2 : Int) p77 q77
                                            replace p77 := eq_true p77
                                            replace q77 := eq_true q77
                                            have HP81 := Kd.R_putg HO_3.out (x4_2 : Int) (wrap64 ((rd x3_2 (rd ((rd_T49 l0_2 x4_2).f1) 0)) + 1))
                                            go_wp2_with (first | ((with_reducible refine gate_store (t := 3) (p := 138) rfl ?_); (try (rw [drewN_self wr]; generalize hq_ : World.drewN wr _ = wr; have n0_ := Aside0.mk (Kd.R_at hq_ HO_3.out); have n1_ := Aside0.mk (blk_at hq_ BK134.out); have n2_ := Aside0.mk (blk_at hq_ BK140.out); have n3_ := Aside0.mk (below_at hq_ HB.out); clear hq_ HO_3 BK134 BK140 HB; have HO_3 := n0_; have BK134 := n1_; have BK140 := n2_; have HB := n3_; clear n0_ n1_ n2_ n3_; (try (have HP81 := Kd.R_putg HO_3.out (x4_2 : Int) (wrap64 ((rd x3_2 (rd ((rd_T49 l0_2 x4_2).f1) 0)) + 1)))))); refine store_event (t := 3) (p := 138) (v := ?vo_w82) (w1 := (wr.setCell ⟨go77, (x4_2 : Int).toNat, none⟩ (.int .i64 (wrap64 ((rd x3_2 (rd ((rd_T49 l0_2 x4_2).f1) 0)) + 1))))) ?hg ?ho ?hn ?hr ?_; (case ho => rfl); (case hg => rfl); (case hn => rfl); (case hr => first | (go_simp; done) | (go_simp; rfl)); intro w82 hw; have hg : wr.grownBy w82 (some go77) := (by rw [hw]; exact HP81.2); have hp_ : Kd.R (Kd.int .i64) 3 w82 w.heap.size (fun _ => True) (.slice (some ⟨go77, 0, none⟩) x3_2.length co80) y149 := (by rw [hw, Ny149.out]; exact HP81.1); clear HP81; have n0_ := Aside0.mk (hp_); have n1_ := Aside0.mk (blk_grown (g := gb134) (o := .cells #[.int .i64 a0_0, .int .i64 a0_1, .slice (some ad139) l0_2.length c0_2, .int .i64 a0_3] 24 (0, 0)) (by (with_reducible repeat (first | refine blk_drewN ?_ _ | refine blk_drew ?_ | refine blk_alloc ?_ _)); exact BK134.out) hg (Kd.R_ne HO_3.out BK134.out (by decide))); have n2_ := Aside0.mk (blk_grown (g := gb140) (o := .cells #[.int .u8 ((rd_T49 l0_2 x4_2).f0), .slice (some ad147) ((rd_T49 l0_2 x4_2).f1).length c139_1] 49 (0, 0)) (by (with_reducible repeat (first | refine blk_drewN ?_ _ | refine blk_drew ?_ | refine blk_alloc ?_ _)); exact BK140.out) hg (Kd.R_ne HO_3.out BK140.out (by decide))); have n3_ := Aside0.mk ((by rw [hw]; exact below_set (HB.out) GB77.out : Below w.heap.size w w82)); clear HO_3; clear BK134; clear BK140; clear HB; have HO_3 := n0_; have BK134 := n1_; have BK140 := n2_; have HB := n3_; clear n0_ n1_ n2_ n3_; clear hg hw hp_))
                                            repeat (go_quiet (first | ((with_reducible refine gate_store (t := 3) (p := 138) rfl ?_); (try (rw [drewN_self wr]; generalize hq_ : World.drewN wr _ = wr; have n0_ := Aside0.mk (Kd.R_at hq_ HO_3.out); have n1_ := Aside0.mk (blk_at hq_ BK134.out); have n2_ := Aside0.mk (blk_at hq_ BK140.out); have n3_ := Aside0.mk (below_at hq_ HB.out); clear hq_ HO_3 BK134 BK140 HB; have HO_3 := n0_; have BK134 := n1_; have BK140 := n2_; have HB := n3_; clear n0_ n1_ n2_ n3_; (try (have HP81 := Kd.R_putg HO_3.out (x4_2 : Int) (wrap64 ((rd x3_2 (rd ((rd_T49 l0_2 x4_2).f1) 0)) + 1)))))); refine store_event (t := 3) (p := 138) (v := ?vo_w82) (w1 := (wr.setCell ⟨go77, (x4_2 : Int).toNat, none⟩ (.int .i64 (wrap64 ((rd x3_2 (rd ((rd_T49 l0_2 x4_2).f1) 0)) + 1))))) ?hg ?ho ?hn ?hr ?_; (case ho => rfl); (case hg => rfl); (case hn => rfl); (case hr => first | (go_simp; done) | (go_simp; rfl)); intro w82 hw; have hg : wr.grownBy w82 (some go77) := (by rw [hw]; exact HP81.2); have hp_ : Kd.R (Kd.int .i64) 3 w82 w.heap.size (fun _ => True) (.slice (some ⟨go77, 0, none⟩) x3_2.length co80) y149 := (by rw [hw, Ny149.out]; exact HP81.1); clear HP81; have n0_ := Aside0.mk (hp_); have n1_ := Aside0.mk (blk_grown (g := gb134) (o := .cells #[.int .i64 a0_0, .int .i64 a0_1, .slice (some ad139) l0_2.length c0_2, .int .i64 a0_3] 24 (0, 0)) (by (with_reducible repeat (first | refine blk_drewN ?_ _ | refine blk_drew ?_ | refine blk_alloc ?_ _)); exact BK134.out) hg (Kd.R_ne HO_3.out BK134.out (by decide))); have n2_ := Aside0.mk (blk_grown (g := gb140) (o := .cells #[.int .u8 ((rd_T49 l0_2 x4_2).f0), .slice (some ad147) ((rd_T49 l0_2 x4_2).f1).length c139_1] 49 (0, 0)) (by (with_reducible repeat (first | refine blk_drewN ?_ _ | refine blk_drew ?_ | refine blk_alloc ?_ _)); exact BK140.out) hg (Kd.R_ne HO_3.out BK140.out (by decide))); have n3_ := Aside0.mk ((by rw [hw]; exact below_set (HB.out) GB77.out : Below w.heap.size w w82)); clear HO_3; clear BK134; clear BK140; clear HB; have HO_3 := n0_; have BK134 := n1_; have BK140 := n2_; have HB := n3_; clear n0_ n1_ n2_ n3_; clear hg hw hp_)); try go_wp2_with (first | ((with_reducible refine gate_store (t := 3) (p := 138) rfl ?_); (try (rw [drewN_self wr]; generalize hq_ : World.drewN wr _ = wr; have n0_ := Aside0.mk (Kd.R_at hq_ HO_3.out); have n1_ := Aside0.mk (blk_at hq_ BK134.out); have n2_ := Aside0.mk (blk_at hq_ BK140.out); have n3_ := Aside0.mk (below_at hq_ HB.out); clear hq_ HO_3 BK134 BK140 HB; have HO_3 := n0_; have BK134 := n1_; have BK140 := n2_; have HB := n3_; clear n0_ n1_ n2_ n3_; (try (have HP81 := Kd.R_putg HO_3.out (x4_2 : Int) (wrap64 ((rd x3_2 (rd ((rd_T49 l0_2 x4_2).f1) 0)) + 1)))))); refine store_event (t := 3) (p := 138) (v := ?vo_w82) (w1 := (wr.setCell ⟨go77, (x4_2 : Int).toNat, none⟩ (.int .i64 (wrap64 ((rd x3_2 (rd ((rd_T49 l0_2 x4_2).f1) 0)) + 1))))) ?hg ?ho ?hn ?hr ?_; (case ho => rfl); (case hg => rfl); (case hn => rfl); (case hr => first | (go_simp; done) | (go_simp; rfl)); intro w82 hw; have hg : wr.grownBy w82 (some go77) := (by rw [hw]; exact HP81.2); have hp_ : Kd.R (Kd.int .i64) 3 w82 w.heap.size (fun _ => True) (.slice (some ⟨go77, 0, none⟩) x3_2.length co80) y149 := (by rw [hw, Ny149.out]; exact HP81.1); clear HP81; have n0_ := Aside0.mk (hp_); have n1_ := Aside0.mk (blk_grown (g := gb134) (o := .cells #[.int .i64 a0_0, .int .i64 a0_1, .slice (some ad139) l0_2.length c0_2, .int .i64 a0_3] 24 (0, 0)) (by (with_reducible repeat (first | refine blk_drewN ?_ _ | refine blk_drew ?_ | refine blk_alloc ?_ _)); exact BK134.out) hg (Kd.R_ne HO_3.out BK134.out (by decide))); have n2_ := Aside0.mk (blk_grown (g := gb140) (o := .cells #[.int .u8 ((rd_T49 l0_2 x4_2).f0), .slice (some ad147) ((rd_T49 l0_2 x4_2).f1).length c139_1] 49 (0, 0)) (by (with_reducible repeat (first | refine blk_drewN ?_ _ | refine blk_drew ?_ | refine blk_alloc ?_ _)); exact BK140.out) hg (Kd.R_ne HO_3.out BK140.out (by decide))); have n3_ := Aside0.mk ((by rw [hw]; exact below_set (HB.out) GB77.out : Below w.heap.size w w82)); clear HO_3; clear BK134; clear BK140; clear HB; have HO_3 := n0_; have BK134 := n1_; have BK140 := n2_; have HB := n3_; clear n0_ n1_ n2_ n3_; clear hg hw hp_)))
                                            go_roundg k4
                                            case measure => have := HJ1.out; have := HK2.out; have := HJ38.out; have := HK4.out; omega
                                            case rel => exact ⟨(y149), (wrap64 (x4_2 + 1)), (by first | rfl | (simp; done) | (simp [*]; done) | (simp [wrap64]; done)), H', ⟨by have := HJ1.out; have := HK2.out; have := HJ38.out; have := HK4.out; omega⟩, ⟨by (with_reducible repeat (first | apply Kd.R_alloc | apply Kd.R_drewN | apply Kd.R_drew)); exact HO_3.out⟩, ⟨by (with_reducible repeat (first | refine blk_drewN ?_ _ | refine blk_drew ?_ | refine blk_alloc ?_ _)); exact BK134.out⟩, ⟨by repeat (first | (with_reducible first | exact HB.out | apply below_alloc | apply pw_below_drewN | apply below_drew1 | refine below_set ?_ GE134.out | refine below_set ?_ GE140.out) | exact HB.out)⟩⟩
                                          · rw [if_neg c76] at H
                                            exact absurd H (by simp)
                                        · rw [if_neg c75] at H
                                          exact absurd H (by simp)
                                      · rw [if_neg c74] at H
                                        exact absurd H (by simp)
                                    · rw [if_neg c73] at H
                                      exact absurd H (by simp)
                                  · rw [if_neg c72] at H
                                    exact absurd H (by simp)
                  · rw [if_neg c26] at H
                    exact absurd H (by simp)
                · rw [if_neg c25] at H
                  have c25b0 : decide (x4_2 < (l0_2.length : Int)) = false := decide_eq_false c25
                  clear c25
                  by_cases c83 : 0 ≤ a0_3
                  · rw [if_pos c83] at H
                    have c83b0 : decide (0 ≤ a0_3) = true := decide_eq_true c83
                    clear c83
                    by_cases c84 : a0_3 < (x3_2.length : Int)
                    · rw [if_pos c84] at H
                      have c84b0 : decide (a0_3 < (x3_2.length : Int)) = true := decide_eq_true c84
                      clear c84
                      by_cases c85 : (rd x3_2 a0_3) = a0_1
                      · rw [if_pos c85] at H
                        have c85b0 : ((rd x3_2 a0_3) == a0_1) = true := beq_iff_eq.mpr c85
                        have c85b1 : ((rd x3_2 a0_3) != a0_1) = false := bne_eq_false_iff_eq.mpr c85
                        clear c85
                        obtain rfl := Option.some.inj H
                        have hcz86_0 : wr.cell? ⟨gb134, 0, none⟩ = some (.int .i64 a0_0) := (blk_cell BK134.out 0).trans rfl
                        have hcz86_1 : wr.cell? ⟨gb134, 1, none⟩ = some (.int .i64 a0_1) := (blk_cell BK134.out 1).trans rfl
                        have hcz86_2 : wr.cell? ⟨gb134, 2, none⟩ = some (.slice A0_2 l0_2.length c0_2) := (blk_cell BK134.out 2).trans rfl
                        have hcz86_3 : wr.cell? ⟨gb134, 3, none⟩ = some (.int .i64 a0_3) := (blk_cell BK134.out 3).trans rfl
                        have hfz86_0 := blk_frozen BK134.out 0
                        have hfz86_1 := blk_frozen BK134.out 1
                        have hfz86_2 := blk_frozen BK134.out 2
                        have hfz86_3 := blk_frozen BK134.out 3
                        obtain ⟨Ao87, co87, eo87⟩ := Kd.R_slice HO_3.out
                        subst eo87
                        have p138 : 0 ≤ (a0_3 : Int) := of_decide_eq_true (by first | (with_reducible assumption) | assumption)
                        have q138 : a0_3 < (x3_2.length : Int) := of_decide_eq_true (by first | (with_reducible assumption) | assumption)
                        obtain ⟨ad138, e138, hx138_0⟩ := Kd.at_int (Kd.R_reads' HO_3.out).2.2 a0_3 p138 q138
                        cases e138
                        replace p138 := eq_true p138
                        replace q138 := eq_true q138
                        go_wp2
                        repeat (go_quiet (fail); try go_wp2)
                        go_ret
                        exact ⟨by first | rfl | (simp [errW_none, errW_some] <;> rfl) | (simp [*, errW_none, errW_some] <;> rfl), by repeat (first | (with_reducible first | exact HB.out | apply below_alloc | apply pw_below_drewN | apply below_drew1 | refine below_set ?_ GE134.out) | exact HB.out)⟩
                      · rw [if_neg c85] at H
                        have c85b0 : ((rd x3_2 a0_3) == a0_1) = false := beq_eq_false_iff_ne.mpr c85
                        have c85b1 : ((rd x3_2 a0_3) != a0_1) = true := bne_iff_ne.mpr c85
                        obtain rfl := Option.some.inj H
                        have hcz88_0 : wr.cell? ⟨gb134, 0, none⟩ = some (.int .i64 a0_0) := (blk_cell BK134.out 0).trans rfl
                        have hcz88_1 : wr.cell? ⟨gb134, 1, none⟩ = some (.int .i64 a0_1) := (blk_cell BK134.out 1).trans rfl
                        have hcz88_2 : wr.cell? ⟨gb134, 2, none⟩ = some (.slice A0_2 l0_2.length c0_2) := (blk_cell BK134.out 2).trans rfl
                        have hcz88_3 : wr.cell? ⟨gb134, 3, none⟩ = some (.int .i64 a0_3) := (blk_cell BK134.out 3).trans rfl
                        have hfz88_0 := blk_frozen BK134.out 0
                        have hfz88_1 := blk_frozen BK134.out 1
                        have hfz88_2 := blk_frozen BK134.out 2
                        have hfz88_3 := blk_frozen BK134.out 3
                        obtain ⟨Ao89, co89, eo89⟩ := Kd.R_slice HO_3.out
                        subst eo89
                        have p138 : 0 ≤ (a0_3 : Int) := of_decide_eq_true (by first | (with_reducible assumption) | assumption)
                        have q138 : a0_3 < (x3_2.length : Int) := of_decide_eq_true (by first | (with_reducible assumption) | assumption)
                        obtain ⟨ad138, e138, hx138_0⟩ := Kd.at_int (Kd.R_reads' HO_3.out).2.2 a0_3 p138 q138
                        cases e138
                        replace p138 := eq_true p138
                        replace q138 := eq_true q138
                        go_wp2
                        repeat (go_quiet (fail); try go_wp2)
                        go_ret
                        exact ⟨by first | rfl | (simp [errW_none, errW_some] <;> rfl) | (simp [*, errW_none, errW_some] <;> rfl), by repeat (first | (with_reducible first | exact HB.out | apply below_alloc | apply pw_below_drewN | apply below_drew1 | refine below_set ?_ GE134.out) | exact HB.out)⟩
                    · rw [if_neg c84] at H
                      exact absurd H (by simp)
                  · rw [if_neg c83] at H
                    exact absurd H (by simp)
          · rw [if_neg c21] at H
            exact absurd H (by simp)
        · rw [if_neg c20] at H
          exact absurd H (by simp)
end Go.Proofs.YtbnonnogkgbpiaaDoor.PT
end
section
namespace Go.Proofs.YtbnonnogkgbpiaaDoor.TreePlain
open Go Go.RowKit Go.Proofs.YtbnonnogkgbpiaaDoorW.PrintWords Go.Proofs.YtbnonnogkgbpiaaDoorW.PrintLast Go.Proofs.YtbnonnogkgbpiaaDoorW.PrintMore Go.Proofs.YtbnonnogkgbpiaaDoor.PT
set_option linter.unusedVariables false
set_option linter.unusedSimpArgs false
def nd (l : List S49) (i : Nat) : S49 := l.getD i z49
def kidsFit (lv : List Int) (i : Nat) (ks : List Int) (j : Nat) : Prop := ∀ q, j ≤ q → q < ks.length → 0 ≤ rd ks q ∧ rd ks q < i ∧ rd lv (rd ks q) = rd lv (rd ks 0)
instance (lv : List Int) (i : Nat) (ks : List Int) (j : Nat) : Decidable (kidsFit lv i ks j) :=
  decidable_of_iff (∀ q, q < ks.length → j ≤ q → 0 ≤ rd ks q ∧ rd ks q < i ∧ rd lv (rd ks q) = rd lv (rd ks 0)) ⟨fun h q a b => h q b a, fun h q a b => h q b a⟩
def chkTo (st : Int) (l : List S49) : Nat → Option (List Int)
  | 0 => some (List.replicate l.length 0)
  | i + 1 => (chkTo st l i).bind fun lv =>
    if (nd l i).f1.length = 0 then (if (nd l i).f0 ≥ st then none else some lv)
    else if (nd l i).f0 = 0 ∧ ((nd l i).f1.length : Int) = st ∧ kidsFit lv i (nd l i).f1 0 then some (lv.set i (rd lv (rd (nd l i).f1 0) + 1)) else none
def chkEnd (st n : Int) (l : List S49) (rt : Int) : Int :=
  match chkTo st l l.length with
  | none => 110
  | some lv => if rd lv rt = n then 0 else 110
def chk (st n : Int) (l : List S49) (rt : Int) : Int :=
  if st < 1 ∨ st > 256 ∨ n < 0 ∨ n > 16 ∨ (l.length : Int) < 1 ∨ (l.length : Int) > 65536 ∨ rt < 0 ∨ rt ≥ l.length then 110 else chkEnd st n l rt
def Bytes (l : List S49) : Prop := ∀ x ∈ l, 0 ≤ x.f0 ∧ x.f0 ≤ 255
theorem nd_bytes {l : List S49} (h : Bytes l) (i : Nat) : 0 ≤ (nd l i).f0 ∧ (nd l i).f0 ≤ 255 := by
  unfold nd
  rw [List.getD_eq_getElem?_getD]
  rcases hq : l[i]? with _ | x
  · exact ⟨by decide, by decide⟩
  · exact h x (List.mem_of_getElem? hq)
theorem chkTo_len (st : Int) (l : List S49) : ∀ i lv, chkTo st l i = some lv → lv.length = l.length
  | 0, lv, h => by
    cases h
    simp
  | i + 1, lv, h => by
    unfold chkTo at h
    rcases hc : chkTo st l i with _ | lv0
    · rw [hc] at h
      cases h
    · rw [hc] at h
      have h0 := chkTo_len st l i lv0 hc
      simp only [Option.bind_some] at h
      split at h
      · split at h
        · cases h
        · cases h
          exact h0
      · split at h
        · cases h
          simpa using h0
        · cases h
theorem chkTo_small (st : Int) (l : List S49) : ∀ i lv, chkTo st l i = some lv → ∀ q, 0 ≤ rd lv q ∧ rd lv q ≤ i
  | 0, lv, h => by
    cases h
    intro q
    unfold rd
    rw [List.getD_eq_getElem?_getD, List.getElem?_replicate]
    split <;> simp
  | i + 1, lv, h => by
    unfold chkTo at h
    rcases hc : chkTo st l i with _ | lv0
    · rw [hc] at h
      cases h
    · rw [hc] at h
      have h0 := chkTo_small st l i lv0 hc
      simp only [Option.bind_some] at h
      split at h
      · split at h
        · cases h
        · cases h
          intro q
          have := h0 q
          omega
      · split at h
        · cases h
          intro q
          have h1 := h0 q
          have h2 := h0 (rd (nd l i).f1 0)
          unfold rd at h1 h2 ⊢
          rw [List.getD_eq_getElem?_getD, List.getElem?_set]
          split
          · split
            · simp only [Option.getD_some]
              omega
            · simp
              omega
          · rw [← List.getD_eq_getElem?_getD]
            omega
        · cases h
section
variable {st n rt : Int} {l : List S49}
theorem l1_tree (lv : List Int) (i : Nat) (hi : i < l.length) (hlv : lv.length = l.length) (hl : l.length ≤ 65536) (hsm : ∀ q, 0 ≤ rd lv q ∧ rd lv q ≤ 65536) (ks : List Int) (hks : ks.length ≤ 256) (h0 : 0 < ks.length) (b : Int) (r : Int)
    (hgood : kidsFit lv i ks 0 → ∃ k, tree_Check.l0 k (lv.set i (rd lv (rd ks 0) + 1)) l l.length ((i : Int) + 1) st n l rt = some r) (hbad : ¬ kidsFit lv i ks 0 → r = 110) : ∀ (d j : Nat), j + d = ks.length → (∀ q, q < j → 0 ≤ rd ks q ∧ rd ks q < i ∧ rd lv (rd ks q) = rd lv (rd ks 0)) →
    ∃ k, tree_Check.l1 k lv i l l.length i ks ks.length j st n l rt b ks = some r := by
  intro d
  induction d with
  | zero =>
    intro j hj hall
    have hfit : kidsFit lv i ks 0 := fun q _ hq => hall q (by omega)
    obtain ⟨k, hk⟩ := hgood hfit
    have hz := hfit 0 (Nat.le_refl _) h0
    have hw : wrap64 (rd lv (rd ks ((0 : Nat) : Int)) + 1) = rd lv (rd ks 0) + 1 := by have := hsm (rd ks 0); show wrap64 (rd lv (rd ks 0) + 1) = _; unfold wrap64; omega
    have hw2 : wrap64 ((i : Int) + 1) = (i : Int) + 1 := by unfold wrap64; omega
    refine ⟨k + 1, ?_⟩
    simp only [tree_Check.l1]
    have hz1 : 0 ≤ rd ks 0 := hz.1
    have hz2 : rd ks 0 < i := hz.2.1
    rw [if_neg (by omega), if_pos (by omega), if_pos hz1, if_pos (by omega), if_pos (by omega), if_pos (by omega), hw2, show (i : Int).toNat = i by omega]
    rw [show wrap64 (rd lv (rd ks 0) + 1) = rd lv (rd ks 0) + 1 from hw]
    exact hk
  | succ d ih =>
    intro j hj hall
    have hjl : j < ks.length := by omega
    have hw : wrap64 ((j : Int) + 1) = ((j + 1 : Nat) : Int) := by unfold wrap64; omega
    by_cases c1 : rd ks j < 0
    · refine ⟨1, ?_⟩
      simp only [tree_Check.l1]
      rw [if_pos (by omega), if_pos (by omega), if_pos (by omega), if_pos c1, hbad (fun h => by have := h j (Nat.zero_le _) hjl; omega)]
    by_cases c2 : rd ks j ≥ i
    · refine ⟨1, ?_⟩
      simp only [tree_Check.l1]
      rw [if_pos (by omega), if_pos (by omega), if_pos (by omega), if_neg c1, if_pos c2, hbad (fun h => by have := h j (Nat.zero_le _) hjl; omega)]
    by_cases c3 : rd lv (rd ks j) = rd lv (rd ks 0)
    · obtain ⟨k, hk⟩ := ih (j + 1) (by omega) (fun q hq => by
        rcases Nat.lt_or_ge q j with h | h
        · exact hall q h
        · have : q = j := by omega
          subst this
          exact ⟨by omega, by omega, c3⟩)
      refine ⟨k + 1, ?_⟩
      simp only [tree_Check.l1]
      rw [if_pos (by omega), if_pos (by omega), if_pos (by omega), if_neg c1, if_neg c2, hw]
      by_cases c4 : (j : Int) > 0
      · have hz := hall 0 (by omega)
        have hz1 : 0 ≤ rd ks 0 := hz.1
        have hz2 : rd ks 0 < i := hz.2.1
        rw [if_pos c4, if_pos (by omega), if_pos (by omega), if_pos (by omega), if_pos hz1, if_pos (by omega), if_pos c3]
        exact hk
      · rw [if_neg c4]
        exact hk
    · have c4 : (j : Int) > 0 := by
        rcases Nat.eq_zero_or_pos j with h | h
        · subst h
          exact absurd rfl c3
        · omega
      have hz := hall 0 (by omega)
      have hz1 : 0 ≤ rd ks 0 := hz.1
      have hz2 : rd ks 0 < i := hz.2.1
      refine ⟨1, ?_⟩
      simp only [tree_Check.l1]
      rw [if_pos (by omega), if_pos (by omega), if_pos (by omega), if_neg c1, if_neg c2, if_pos c4, if_pos (by omega), if_pos (by omega), if_pos (by omega), if_pos hz1, if_pos (by omega), if_neg c3, hbad (fun h => c3 (h j (Nat.zero_le _) hjl).2.2)]
theorem l1_ref (lv : List Int) (i : Nat) (hi : i < l.length) (hlv : lv.length = l.length) (hl : l.length ≤ 65536) (hsm : ∀ q, 0 ≤ rd lv q ∧ rd lv q ≤ 65536) (ks : List Int) (hks : ks.length ≤ 256) (h0 : 0 < ks.length) (b : Int) (r : Int)
    (hgood : kidsFit lv i ks 0 → ∃ k, vivariumref11_Check.l0 k (lv.set i (rd lv (rd ks 0) + 1)) ((i : Int) + 1) st n l rt = some r) (hbad : ¬ kidsFit lv i ks 0 → r = 110) : ∀ (d j : Nat), j + d = ks.length → (∀ q, q < j → 0 ≤ rd ks q ∧ rd ks q < i ∧ rd lv (rd ks q) = rd lv (rd ks 0)) →
    ∃ k, vivariumref11_Check.l1 k lv i j st n l rt b ks = some r := by
  intro d
  induction d with
  | zero =>
    intro j hj hall
    have hfit : kidsFit lv i ks 0 := fun q _ hq => hall q (by omega)
    obtain ⟨k, hk⟩ := hgood hfit
    have hz := hfit 0 (Nat.le_refl _) h0
    have hz1 : 0 ≤ rd ks 0 := hz.1
    have hz2 : rd ks 0 < i := hz.2.1
    have hw : wrap64 (rd lv (rd ks 0) + 1) = rd lv (rd ks 0) + 1 := by have := hsm (rd ks 0); unfold wrap64; omega
    have hw2 : wrap64 ((i : Int) + 1) = (i : Int) + 1 := by unfold wrap64; omega
    clear hz hfit hall hgood hbad
    have hv : ∃ v, v = rd ks 0 := ⟨_, rfl⟩
    obtain ⟨v, hv⟩ := hv
    rw [← hv] at hz1 hz2 hw hk
    refine ⟨k + 1, ?_⟩
    simp only [vivariumref11_Check.l1]
    rw [← hv]
    clear hv
    rw [if_neg (by omega), if_pos (by omega), if_pos hz1, if_pos (by omega), if_pos (by omega), if_pos (by omega), hw2, hw, show (i : Int).toNat = i by omega]
    exact hk
  | succ d ih =>
    intro j hj hall
    have hjl : j < ks.length := by omega
    have hw : wrap64 ((j : Int) + 1) = ((j + 1 : Nat) : Int) := by unfold wrap64; omega
    by_cases c1 : rd ks j < 0
    · refine ⟨1, ?_⟩
      simp only [vivariumref11_Check.l1]
      rw [if_pos (by omega), if_pos (by omega), if_pos c1, hbad (fun h => by have := h j (Nat.zero_le _) hjl; omega)]
    by_cases c2 : rd ks j ≥ i
    · refine ⟨1, ?_⟩
      simp only [vivariumref11_Check.l1]
      rw [if_pos (by omega), if_pos (by omega), if_neg c1, if_pos c2, hbad (fun h => by have := h j (Nat.zero_le _) hjl; omega)]
    have hz : 0 ≤ rd ks 0 ∧ rd ks 0 < i := by
      rcases Nat.eq_zero_or_pos j with h | h
      · subst h
        have c1' : ¬ rd ks 0 < 0 := c1
        have c2' : ¬ rd ks 0 ≥ i := c2
        exact ⟨by omega, by omega⟩
      · have := hall 0 h
        exact ⟨this.1, this.2.1⟩
    have hm : mx (rd ks 0) 0 = rd ks 0 := by unfold mx; split <;> omega
    by_cases c3 : rd lv (rd ks j) = rd lv (rd ks 0)
    · obtain ⟨k, hk⟩ := ih (j + 1) (by omega) (fun q hq => by
        rcases Nat.lt_or_ge q j with h | h
        · exact hall q h
        · have : q = j := by omega
          subst this
          exact ⟨by omega, by omega, c3⟩)
      refine ⟨k + 1, ?_⟩
      simp only [vivariumref11_Check.l1]
      rw [if_pos (by omega), if_pos (by omega), if_neg c1, if_neg c2, if_pos (by omega), if_pos (by omega), if_pos (by omega), hm, if_pos hz.1, if_pos (by omega), if_pos c3, hw]
      exact hk
    · refine ⟨1, ?_⟩
      simp only [vivariumref11_Check.l1]
      rw [if_pos (by omega), if_pos (by omega), if_neg c1, if_neg c2, if_pos (by omega), if_pos (by omega), if_pos (by omega), hm, if_pos hz.1, if_pos (by omega), if_neg c3, hbad (fun h => c3 (h j (Nat.zero_le _) hjl).2.2)]
theorem chkTo_none (st : Int) (l : List S49) {i : Nat} (h : chkTo st l i = none) : ∀ d, chkTo st l (i + d) = none
  | 0 => h
  | d + 1 => by
    show (chkTo st l (i + d)).bind _ = none
    rw [chkTo_none st l h d]
    rfl
theorem chkEnd_none {i : Nat} (h : chkTo st l i = none) (hi : i ≤ l.length) : chkEnd st n l rt = 110 := by
  have := chkTo_none st l h (l.length - i)
  rw [show i + (l.length - i) = l.length by omega] at this
  rw [chkEnd, this]
theorem l0_tree (h3 : l.length ≤ 65536) (h4 : st ≤ 256) (h5 : 0 ≤ rt) (h6 : rt < l.length) (hB : Bytes l) : ∀ (d i : Nat) (lv : List Int), i + d = l.length → chkTo st l i = some lv → ∃ k, tree_Check.l0 k lv l l.length i st n l rt = some (chkEnd st n l rt) := by
  intro d
  induction d with
  | zero =>
    intro i lv hi hc
    have hi : i = l.length := by omega
    subst hi
    have hlen := chkTo_len st l _ lv hc
    refine ⟨1, ?_⟩
    simp only [tree_Check.l0]
    rw [if_neg (by omega), if_pos h5, if_pos (by omega), chkEnd, hc]
    dsimp only
    split <;> rfl
  | succ d ih =>
    intro i lv hi hc
    have hlen := chkTo_len st l _ lv hc
    have hnb := nd_bytes hB i
    have hstep : chkTo st l (i + 1) = if (nd l i).f1.length = 0 then (if (nd l i).f0 ≥ st then none else some lv)
      else if (nd l i).f0 = 0 ∧ ((nd l i).f1.length : Int) = st ∧ kidsFit lv i (nd l i).f1 0 then some (lv.set i (rd lv (rd (nd l i).f1 0) + 1)) else none := by
      show (chkTo st l i).bind _ = _
      rw [hc, Option.bind_some]
    have hrd : rd_T49 l (i : Int) = nd l i := rfl
    have hw2 : wrap64 ((i : Int) + 1) = ((i + 1 : Nat) : Int) := by unfold wrap64; omega
    have hw3 : wrap64 (nd l i).f0 = (nd l i).f0 := by unfold wrap64; omega
    generalize nd l i = x at *
    by_cases c1 : x.f1.length = 0
    · rw [if_pos c1] at hstep
      by_cases c2 : x.f0 ≥ st
      · rw [if_pos c2] at hstep
        refine ⟨1, ?_⟩
        simp only [tree_Check.l0]
        rw [if_pos (by omega), if_pos (by omega), if_pos (by omega), hrd, if_pos (by omega), hw3, if_pos c2, chkEnd_none hstep (by omega)]
      · rw [if_neg c2] at hstep
        obtain ⟨k, hk⟩ := ih (i + 1) lv (by omega) hstep
        refine ⟨k + 1, ?_⟩
        simp only [tree_Check.l0]
        rw [if_pos (by omega), if_pos (by omega), if_pos (by omega), hrd, if_pos (by omega), hw3, if_neg c2, hw2]
        exact hk
    · rw [if_neg c1] at hstep
      by_cases c2 : x.f0 = 0
      · by_cases c3 : (x.f1.length : Int) = st
        · have hsm : ∀ q, 0 ≤ rd lv q ∧ rd lv q ≤ 65536 := fun q => by
            have := chkTo_small st l i lv hc q
            omega
          obtain ⟨k, hk⟩ := l1_tree (st := st) (n := n) (rt := rt) lv i (by omega) hlen h3 hsm x.f1 (by omega) (by omega) x.f0 (chkEnd st n l rt) (fun hfit => by
            rw [if_pos ⟨c2, c3, hfit⟩] at hstep
            obtain ⟨k, hk⟩ := ih (i + 1) _ (by omega) hstep
            exact ⟨k, hk⟩) (fun hno => by
            rw [if_neg (fun h => hno h.2.2)] at hstep
            exact chkEnd_none hstep (by omega)) x.f1.length 0 (by omega) (fun q hq => by omega)
          refine ⟨k + 1 + 1, ?_⟩
          simp only [tree_Check.l0, tree_Check.j2]
          rw [if_pos (by omega), if_pos (by omega), if_pos (by omega), hrd, if_neg (by omega), if_pos c2, if_neg (by simp [c3])]
          exact hk
        · rw [if_neg (fun h => c3 h.2.1)] at hstep
          refine ⟨1 + 1, ?_⟩
          simp only [tree_Check.l0, tree_Check.j2]
          rw [if_pos (by omega), if_pos (by omega), if_pos (by omega), hrd, if_neg (by omega), if_pos c2, if_pos (by simpa using c3), chkEnd_none hstep (by omega)]
      · rw [if_neg (fun h => c2 h.1)] at hstep
        refine ⟨1 + 1, ?_⟩
        simp only [tree_Check.l0, tree_Check.j2]
        rw [if_pos (by omega), if_pos (by omega), if_pos (by omega), hrd, if_neg (by omega), if_neg c2, if_pos trivial, chkEnd_none hstep (by omega)]
theorem l0_ref (h3 : l.length ≤ 65536) (h4 : st ≤ 256) (h5 : 0 ≤ rt) (h6 : rt < l.length) (hB : Bytes l) : ∀ (d i : Nat) (lv : List Int), i + d = l.length → chkTo st l i = some lv → ∃ k, vivariumref11_Check.l0 k lv i st n l rt = some (chkEnd st n l rt) := by
  intro d
  induction d with
  | zero =>
    intro i lv hi hc
    have hi : i = l.length := by omega
    subst hi
    have hlen := chkTo_len st l _ lv hc
    refine ⟨1, ?_⟩
    simp only [vivariumref11_Check.l0]
    rw [if_neg (by omega), if_pos h5, if_pos (by omega), chkEnd, hc]
    dsimp only
    split <;> rfl
  | succ d ih =>
    intro i lv hi hc
    have hlen := chkTo_len st l _ lv hc
    have hnb := nd_bytes hB i
    have hstep : chkTo st l (i + 1) = if (nd l i).f1.length = 0 then (if (nd l i).f0 ≥ st then none else some lv)
      else if (nd l i).f0 = 0 ∧ ((nd l i).f1.length : Int) = st ∧ kidsFit lv i (nd l i).f1 0 then some (lv.set i (rd lv (rd (nd l i).f1 0) + 1)) else none := by
      show (chkTo st l i).bind _ = _
      rw [hc, Option.bind_some]
    have hrd : rd_T49 l (i : Int) = nd l i := rfl
    have hw2 : wrap64 ((i : Int) + 1) = ((i + 1 : Nat) : Int) := by unfold wrap64; omega
    have hw3 : wrap64 (nd l i).f0 = (nd l i).f0 := by unfold wrap64; omega
    generalize nd l i = x at *
    by_cases c1 : x.f1.length = 0
    · rw [if_pos c1] at hstep
      by_cases c2 : x.f0 ≥ st
      · rw [if_pos c2] at hstep
        refine ⟨1, ?_⟩
        simp only [vivariumref11_Check.l0]
        rw [if_pos (by omega), if_pos (by omega), hrd, if_pos (by omega), hw3, if_pos c2, chkEnd_none hstep (by omega)]
      · rw [if_neg c2] at hstep
        obtain ⟨k, hk⟩ := ih (i + 1) lv (by omega) hstep
        refine ⟨k + 1, ?_⟩
        simp only [vivariumref11_Check.l0]
        rw [if_pos (by omega), if_pos (by omega), hrd, if_pos (by omega), hw3, if_neg c2, hw2]
        exact hk
    · rw [if_neg c1] at hstep
      by_cases c2 : x.f0 = 0
      · by_cases c3 : (x.f1.length : Int) = st
        · have hsm : ∀ q, 0 ≤ rd lv q ∧ rd lv q ≤ 65536 := fun q => by
            have := chkTo_small st l i lv hc q
            omega
          obtain ⟨k, hk⟩ := l1_ref (st := st) (n := n) (rt := rt) lv i (by omega) hlen h3 hsm x.f1 (by omega) (by omega) x.f0 (chkEnd st n l rt) (fun hfit => by
            rw [if_pos ⟨c2, c3, hfit⟩] at hstep
            obtain ⟨k, hk⟩ := ih (i + 1) _ (by omega) hstep
            exact ⟨k, hk⟩) (fun hno => by
            rw [if_neg (fun h => hno h.2.2)] at hstep
            exact chkEnd_none hstep (by omega)) x.f1.length 0 (by omega) (fun q hq => by omega)
          refine ⟨k + 1 + 1, ?_⟩
          simp only [vivariumref11_Check.l0, vivariumref11_Check.j2]
          rw [if_pos (by omega), if_pos (by omega), hrd, if_neg (by omega), if_pos c2, if_neg (by simp [c3])]
          exact hk
        · rw [if_neg (fun h => c3 h.2.1)] at hstep
          refine ⟨1 + 1, ?_⟩
          simp only [vivariumref11_Check.l0, vivariumref11_Check.j2]
          rw [if_pos (by omega), if_pos (by omega), hrd, if_neg (by omega), if_pos c2, if_pos (by simpa using c3), chkEnd_none hstep (by omega)]
      · rw [if_neg (fun h => c2 h.1)] at hstep
        refine ⟨1 + 1, ?_⟩
        simp only [vivariumref11_Check.l0, vivariumref11_Check.j2]
        rw [if_pos (by omega), if_pos (by omega), hrd, if_neg (by omega), if_neg c2, if_pos trivial, chkEnd_none hstep (by omega)]
end
theorem chk_tree (st n rt : Int) (l : List S49) (hB : Bytes l) : ∃ k, tree_Check.f k st n l rt = some (chk st n l rt) := by
  unfold chk
  split
  · rename_i h
    refine ⟨1, ?_⟩
    unfold tree_Check.f
    by_cases c1 : st < 1
    · rw [if_pos c1]; simp only [tree_Check.j0]; rw [if_pos trivial]
    by_cases c2 : st > 256
    · rw [if_neg c1, if_pos c2]; simp only [tree_Check.j0]; rw [if_pos trivial]
    by_cases c3 : n < 0
    · rw [if_neg c1, if_neg c2, if_pos c3]; simp only [tree_Check.j0]; rw [if_pos trivial]
    by_cases c4 : n > 16
    · rw [if_neg c1, if_neg c2, if_neg c3, if_pos c4]; simp only [tree_Check.j0]; rw [if_pos trivial]
    by_cases c5 : (l.length : Int) < 1
    · rw [if_neg c1, if_neg c2, if_neg c3, if_neg c4, if_pos c5]; simp only [tree_Check.j0]; rw [if_pos trivial]
    by_cases c6 : (l.length : Int) > 65536
    · rw [if_neg c1, if_neg c2, if_neg c3, if_neg c4, if_neg c5, if_pos c6]; simp only [tree_Check.j0]; rw [if_pos trivial]
    by_cases c7 : rt < 0
    · rw [if_neg c1, if_neg c2, if_neg c3, if_neg c4, if_neg c5, if_neg c6, if_pos c7]; simp only [tree_Check.j0]; rw [if_pos trivial]
    rw [if_neg c1, if_neg c2, if_neg c3, if_neg c4, if_neg c5, if_neg c6, if_neg c7]
    simp only [tree_Check.j0]
    rw [if_pos (decide_eq_true (by omega))]
  · rename_i h
    obtain ⟨k, hk⟩ := l0_tree (st := st) (n := n) (rt := rt) (l := l) (by omega) (by omega) (by omega) (by omega) hB l.length 0 _ (by omega) rfl
    refine ⟨k + 1, ?_⟩
    unfold tree_Check.f
    rw [if_neg (by omega), if_neg (by omega), if_neg (by omega), if_neg (by omega), if_neg (by omega), if_neg (by omega), if_neg (by omega)]
    simp only [tree_Check.j0]
    rw [if_neg (by simp; omega), if_pos (by omega), if_pos (by omega), show ((l.length : Int)).toNat = l.length by omega]
    exact hk
theorem chk_ref (st n rt : Int) (l : List S49) (hB : Bytes l) : ∃ k, vivariumref11_Check.f k st n l rt = some (chk st n l rt) := by
  unfold chk
  split
  · rename_i h
    refine ⟨1, ?_⟩
    unfold vivariumref11_Check.f
    by_cases c1 : st < 1
    · rw [if_pos c1]; simp only [vivariumref11_Check.j0]; rw [if_pos trivial]
    by_cases c2 : st > 256
    · rw [if_neg c1, if_pos c2]; simp only [vivariumref11_Check.j0]; rw [if_pos trivial]
    by_cases c3 : n < 0
    · rw [if_neg c1, if_neg c2, if_pos c3]; simp only [vivariumref11_Check.j0]; rw [if_pos trivial]
    by_cases c4 : n > 16
    · rw [if_neg c1, if_neg c2, if_neg c3, if_pos c4]; simp only [vivariumref11_Check.j0]; rw [if_pos trivial]
    by_cases c5 : (l.length : Int) < 1
    · rw [if_neg c1, if_neg c2, if_neg c3, if_neg c4, if_pos c5]; simp only [vivariumref11_Check.j0]; rw [if_pos trivial]
    by_cases c6 : (l.length : Int) > 65536
    · rw [if_neg c1, if_neg c2, if_neg c3, if_neg c4, if_neg c5, if_pos c6]; simp only [vivariumref11_Check.j0]; rw [if_pos trivial]
    by_cases c7 : rt < 0
    · rw [if_neg c1, if_neg c2, if_neg c3, if_neg c4, if_neg c5, if_neg c6, if_pos c7]; simp only [vivariumref11_Check.j0]; rw [if_pos trivial]
    rw [if_neg c1, if_neg c2, if_neg c3, if_neg c4, if_neg c5, if_neg c6, if_neg c7]
    simp only [vivariumref11_Check.j0]
    rw [if_pos (decide_eq_true (by omega))]
  · rename_i h
    obtain ⟨k, hk⟩ := l0_ref (st := st) (n := n) (rt := rt) (l := l) (by omega) (by omega) (by omega) (by omega) hB l.length 0 _ (by omega) rfl
    refine ⟨k + 1, ?_⟩
    unfold vivariumref11_Check.f
    rw [if_neg (by omega), if_neg (by omega), if_neg (by omega), if_neg (by omega), if_neg (by omega), if_neg (by omega), if_neg (by omega)]
    simp only [vivariumref11_Check.j0]
    rw [if_neg (by simp; omega), if_pos (by omega), if_pos (by omega), show ((l.length : Int)).toNat = l.length by omega]
    exact hk
end Go.Proofs.YtbnonnogkgbpiaaDoor.TreePlain
end
section
namespace Go.Proofs.YtbnonnogkgbpiaaDoor.TreeText
open Go Go.RowKit Go.Proofs.YtbnonnogkgbpiaaDoorW.PrintWords Go.Proofs.YtbnonnogkgbpiaaDoorW.PrintLast Go.Proofs.YtbnonnogkgbpiaaDoorW.PrintMore Go.Proofs.YtbnonnogkgbpiaaDoor.PT Go.Proofs.YtbnonnogkgbpiaaDoor.TreePlain
set_option linter.unusedVariables false
set_option linter.unusedSimpArgs false
def spacedT (ks : List Int) : Nat → List UInt8
  | 0 => []
  | j + 1 => spacedT ks j ++ (32 :: Lib.itoa (rd ks j))
def kidsT (ks : List Int) : Nat → List UInt8
  | 0 => []
  | j + 1 => kidsT ks j ++ ((if 0 < j then [32] else []) ++ Lib.itoa (rd ks j))
def lineT (x : S49) : List UInt8 := (if x.f1.length = 0 then [61, 32] ++ Lib.itoa x.f0 else []) ++ (kidsT x.f1 x.f1.length ++ [10])
def headT (st n len rt : Int) : List UInt8 := [116, 114, 101, 101] ++ (spacedT [st, n, len, rt] 4 ++ [10])
def restT (l : List S49) : Nat → Nat → List UInt8 → Option (List UInt8)
  | 0, i, t => some t
  | d + 1, i, t => if 1048576 < (t ++ lineT (nd l i)).length then none else restT l d (i + 1) (t ++ lineT (nd l i))
def outT : Option (List UInt8) → List UInt8 × Int
  | none => ([], 3)
  | some t => (t, 0)
def printP (st n : Int) (l : List S49) (rt : Int) : List UInt8 × Int := outT (restT l l.length 0 (headT st n l.length rt))
theorem nDigits_le : ∀ (k u : Nat), u < 10 ^ (k + 1) → Lib.nDigits u ≤ k + 1
  | k, u, h => by
    by_cases c : u < 10
    · rw [Lib.nDigits_small c]
      omega
    · rw [Lib.nDigits_big c]
      cases k with
      | zero => simp at h; omega
      | succ k =>
        have := nDigits_le k (u / 10) (by rw [Nat.pow_succ] at h; omega)
        omega
theorem itoa_len (n : Int) (h0 : -9223372036854775808 ≤ n) (h1 : n ≤ 9223372036854775807) : (Lib.itoa n).length ≤ 20 := by
  unfold Lib.itoa
  split
  · rw [List.length_cons, Lib.decDigits_length]
    have := nDigits_le 18 n.natAbs (by omega)
    omega
  · rw [Lib.decDigits_length]
    have := nDigits_le 19 n.toNat (by omega)
    omega
theorem kidsT_len (ks : List Int) (h : ∀ q, q < ks.length → -9223372036854775808 ≤ rd ks q ∧ rd ks q ≤ 9223372036854775807) : ∀ j, j ≤ ks.length → (kidsT ks j).length ≤ 21 * j
  | 0, _ => Nat.le_refl _
  | j + 1, hj => by
    have ih := kidsT_len ks h j (by omega)
    have := itoa_len _ (h j (by omega)).1 (h j (by omega)).2
    simp only [kidsT, List.length_append]
    split <;> simp <;> omega
def Pow (w : World) : Prop := Lib.TabIs Tryd.prog w "internal/strconv.uint64pow10" .u64 Lib.pow10Tab
theorem Pow.on {w w' : World} (h : Pow w) (hb : Below w.heap.size w w') : Pow w' := by
  unfold Pow at h ⊢
  exact Lib.tabBelow_of_tabIs h _ hb
theorem itoa_any (n : Int) (h0 : -9223372036854775808 ≤ n) (h1 : n ≤ 9223372036854775807) (w : World) (hp : Pow w) :
    Calls Tryd.prog 52 #[.int .i64 n] w fun e w' => e = .returned (.string ⟨(Lib.itoa n).toArray⟩) ∧ Below w.heap.size w w' := by
  refine (Tryd.strconv_Itoa n h0 h1 _ hp).mono ?_
  rintro e w' ⟨rfl, k, os, rfl⟩
  exact ⟨rfl, Lib.below_grow _ _ (Nat.le_refl _) k os⟩
theorem cat_eq (a b : List UInt8) : (⟨a.toArray⟩ : ByteArray) ++ (⟨b.toArray⟩ : ByteArray) = ⟨(a ++ b).toArray⟩ := by
  apply ByteArray.ext
  simp [ByteArray.data_append]
theorem mono {B B' : Nat} {w w' : World} (h : Below B w w') (hb : B' ≤ B) : Below B' w w' := ⟨h.os, h.tape, h.output, h.size, fun k hk => h.block k (Nat.lt_of_lt_of_le hk hb)⟩
theorem isb_on {W W' : World} {b : Nat} {l : List Value} (h : Lib.IsBuilder 89 5 b b l W) (hb : Below W.heap.size W W') : Lib.IsBuilder 89 5 b b l W' := by
  have go : ∀ p, Lib.BuilderAt 89 5 b b p l W → Lib.BuilderAt 89 5 b b p l W' := by
    rintro p ⟨hB, v, hbk, ⟨h1, h2⟩, hne⟩
    refine ⟨hB, v, (hb.block b (Bld.in_heap hbk)).trans hbk, ⟨h1, ?_⟩, hne⟩
    rcases h2 with h | ⟨g, cap, cur, hv, hg, hh, hr⟩
    · exact .inl h
    · exact .inr ⟨g, cap, cur, hv, hg, (hb.block g (Bld.in_heap hh)).trans hh, hr⟩
  exact h.imp (go _) (go _)
def Kp (W W' : World) : Prop := ∀ (k : Nat) (cs : Array Value) (ty : TypeId) (fz : Nat × Nat), W.heap[k]? = some (.cells cs ty fz) → ty ≠ 5 → ty ≠ 89 → W'.heap[k]? = some (.cells cs ty fz)
theorem Kp.below {W W' : World} (hb : Below W.heap.size W W') : Kp W W' := fun k cs ty fz h _ _ => (hb.block k (blk_lt h)).trans h
theorem Kp.trans {W W1 W2 : World} (h : Kp W W1) (g : Kp W1 W2) : Kp W W2 := fun k cs ty fz hk a b => g k cs ty fz (h k cs ty fz hk a b) a b
theorem isb_block {W : World} {b : Nat} {l : List Value} (h : Lib.IsBuilder 89 5 b b l W) : ∃ cs, W.heap[b]? = some (.cells cs 89 (0, 0)) := by
  rcases h with ⟨_, v, hb, _⟩ | ⟨_, v, hb, _⟩
  · exact ⟨_, hb⟩
  · exact ⟨_, hb⟩
theorem Kp.others {W W' : World} {b : Nat} {l : List Value} (h : Lib.IsBuilder 89 5 b b l W) (hk : Lib.OthersKept 5 (some b) W W') : Kp W W' := by
  obtain ⟨cb, hb⟩ := isb_block h
  intro k cs ty fz hx h1 h2
  refine hk k _ hx ?_ ?_
  · intro e
    injection e with e
    subst e
    rw [hx] at hb
    injection hb with hb
    injection hb with _ hb
    exact h2 hb
  · intro c fz' e
    injection e with _ e
    exact h1 e
structure TP (w00 : World) (b : Nat) (l : List UInt8) (W : World) : Prop where
  bld : Lib.IsBuilder 89 5 b b (Lib.byteCells l) W
  le : w00.heap.size ≤ b
  be : Below w00.heap.size w00 W
section
variable {w00 W W' : World} {b : Nat} {l : List UInt8}
theorem TP.blt (h : TP w00 b l W) : b < W.heap.size := by rcases h.bld with x | x <;> exact x.lt
theorem TP.on (h : TP w00 b l W) (hb : Below W.heap.size W W') : TP w00 b l W' := ⟨isb_on h.bld hb, h.le, h.be.trans (mono hb h.be.size)⟩
theorem TP.text (h : TP w00 b l W) (d : List UInt8) (hl : l.length + d.length ≤ 1000000000) :
    Calls Tryd.prog 51 #[.pointer (some ⟨b, 0, none⟩), .string ⟨d.toArray⟩] W fun e W' => (∃ v, e = .returned (.tuple #[.int .i64 v, .nilIface])) ∧ TP w00 b (l ++ d) W' ∧ Kp W W' := by
  have hs : (⟨d.toArray⟩ : ByteArray).size = d.length := by simp [← ByteArray.size_data]
  refine (Bld.text b b _ _ W h.bld (by rw [Lib.byteCells_length, hs]; omega) (Nat.le_of_lt h.blt)).mono ?_
  rintro e W' ⟨rfl, h1, h2, h3⟩
  exact ⟨⟨_, rfl⟩, ⟨by rw [Lib.byteCells_append]; simpa [Lib.strCells, Lib.byteCells] using h1, h.le, h.be.trans (mono h2 h.le)⟩, Kp.others h.bld h3⟩
theorem TP.text2 (h : TP w00 b l W) (s : ByteArray) (d : List UInt8) (hs : s = ⟨d.toArray⟩) (hl : l.length + d.length ≤ 1000000000) :
    Calls Tryd.prog 51 #[.pointer (some ⟨b, 0, none⟩), .string s] W fun e W' => (∃ v, e = .returned (.tuple #[.int .i64 v, .nilIface])) ∧ TP w00 b (l ++ d) W' ∧ Kp W W' := hs ▸ h.text d hl
theorem TP.byte (h : TP w00 b l W) (c : UInt8) (x : Int) (hx : x = (c.toNat : Int)) (hl : l.length ≤ 1000000000) :
    Calls Tryd.prog 53 #[.pointer (some ⟨b, 0, none⟩), .int .u8 x] W fun e W' => e = .returned .nilIface ∧ TP w00 b (l ++ [c]) W' ∧ Kp W W' := by
  subst hx
  refine (Bld.byte b b _ _ W h.bld (by rw [Lib.byteCells_length]; omega) (Nat.le_of_lt h.blt)).mono ?_
  rintro e W' ⟨rfl, h1, h2, h3⟩
  exact ⟨rfl, ⟨by rw [Lib.byteCells_append]; exact h1, h.le, h.be.trans (mono h2 h.le)⟩, Kp.others h.bld h3⟩
theorem TP.num (h : TP w00 b l W) (n : Int) (h0 : -9223372036854775808 ≤ n) (h1 : n ≤ 9223372036854775807) (hp : Pow w00) :
    Calls Tryd.prog 52 #[.int .i64 n] W fun e W' => e = .returned (.string ⟨(Lib.itoa n).toArray⟩) ∧ TP w00 b l W' ∧ Kp W W' := by
  refine (itoa_any n h0 h1 W (hp.on h.be)).mono ?_
  rintro e W' ⟨rfl, hb⟩
  exact ⟨rfl, h.on hb, Kp.below hb⟩
theorem TP.len (h : TP w00 b l W) : Calls Tryd.prog 54 #[.pointer (some ⟨b, 0, none⟩)] W fun e W' => e = .returned (.int .i64 (l.length : Int)) ∧ W' = W := by
  have := Tryd.Builder_Len b b _ W h.bld
  rw [Lib.byteCells_length] at this
  exact this
theorem TP.string (h : TP w00 b l W) : Calls Tryd.prog 55 #[.pointer (some ⟨b, 0, none⟩)] W fun e W' => e = .returned (.string ⟨l.toArray⟩) ∧ Below w00.heap.size w00 W' := by
  refine (Tryd.Builder_String_any b b l W h.bld (Nat.le_of_lt h.blt)).mono ?_
  rintro e W' ⟨rfl, hb⟩
  exact ⟨rfl, h.be.trans (mono hb h.le)⟩
theorem TP.start {W1 : World} (hB : Below w00.heap.size w00 W) (hg : b = W.heap.size) (hbb : W1.heap[b]? = some (.cells #[.pointer none, .slice none 0 0] 89 (0, 0))) (hb : Below W.heap.size W W1) : TP w00 b [] W1 :=
  ⟨.inl ⟨Nat.le_refl _, .slice none 0 0, hbb, World.ownsRow_nil _ _ _ _, by simp [Value.ownBlock]⟩, hg ▸ hB.size, hB.trans (mono hb hB.size)⟩
end
def Good (st : Int) (l : List S49) : Prop := ∀ j, j < l.length → ((nd l j).f1.length = 0 ∧ (nd l j).f0 < st) ∨ ((nd l j).f0 = 0 ∧ ((nd l j).f1.length : Int) = st ∧ ∀ q, q < (nd l j).f1.length → 0 ≤ rd (nd l j).f1 q ∧ rd (nd l j).f1 q < j)
theorem chkTo_good (st : Int) (l : List S49) : ∀ i lv, chkTo st l i = some lv → ∀ j, j < i → ((nd l j).f1.length = 0 ∧ (nd l j).f0 < st) ∨ ((nd l j).f0 = 0 ∧ ((nd l j).f1.length : Int) = st ∧ ∀ q, q < (nd l j).f1.length → 0 ≤ rd (nd l j).f1 q ∧ rd (nd l j).f1 q < j)
  | 0, lv, h => fun j hj => by omega
  | i + 1, lv, h => by
    unfold chkTo at h
    rcases hc : chkTo st l i with _ | lv0
    · rw [hc] at h
      cases h
    · rw [hc] at h
      have h0 := chkTo_good st l i lv0 hc
      simp only [Option.bind_some] at h
      intro j hj
      by_cases e : j < i
      · exact h0 j e
      · have : j = i := by omega
        subst this
        split at h
        · rename_i c
          split at h
          · cases h
          · exact .inl ⟨c, by omega⟩
        · rename_i c
          split at h
          · rename_i c2
            exact .inr ⟨c2.1, c2.2.1, fun q hq => ⟨(c2.2.2 q (Nat.zero_le _) hq).1, (c2.2.2 q (Nat.zero_le _) hq).2.1⟩⟩
          · cases h
structure Fine (st n : Int) (l : List S49) (rt : Int) : Prop where
  hst : 1 ≤ st ∧ st ≤ 256
  hn : 0 ≤ n ∧ n ≤ 16
  hl : 1 ≤ l.length ∧ l.length ≤ 65536
  hrt : 0 ≤ rt ∧ rt < l.length
  good : Good st l
theorem chk_zero {st n rt : Int} {l : List S49} (h : chk st n l rt = 0) : Fine st n l rt := by
  unfold chk at h
  split at h
  · cases h
  · rename_i c
    unfold chkEnd at h
    rcases hc : chkTo st l l.length with _ | lv
    · rw [hc] at h
      cases h
    · exact ⟨by omega, by omega, by omega, by omega, chkTo_good st l _ lv hc⟩
end Go.Proofs.YtbnonnogkgbpiaaDoor.TreeText
end
section
namespace Go.Proofs.YtbnonnogkgbpiaaDoor.TreeText
open Go Go.RowKit Go.Proofs.YtbnonnogkgbpiaaDoorW.PrintWords Go.Proofs.YtbnonnogkgbpiaaDoorW.PrintLast Go.Proofs.YtbnonnogkgbpiaaDoorW.PrintMore Go.Proofs.YtbnonnogkgbpiaaDoor.PT Go.Proofs.YtbnonnogkgbpiaaDoor.TreePlain
set_option linter.unusedVariables false
set_option linter.unusedSimpArgs false
theorem four {W : World} {t ty : Nat} {v0 v1 v2 v3 : Value} (h : W.heap[t]? = some (.cells #[v0, v1, v2, v3] ty (0, 0))) : W.cell? ⟨t, 0, none⟩ = some v0 ∧ W.cell? ⟨t, 1, none⟩ = some v1 ∧ W.cell? ⟨t, 2, none⟩ = some v2 ∧ W.cell? ⟨t, 3, none⟩ = some v3 :=
  ⟨(blk_cell h 0).trans rfl, (blk_cell h 1).trans rfl, (blk_cell h 2).trans rfl, (blk_cell h 3).trans rfl⟩
set_option maxHeartbeats 8000000 in
set_option maxRecDepth 100000 in
theorem print_bad (k : Nat) (st n : Int) (A : Option Addr) (c : Nat) (l : List S49) (rt code : Int) (w : World) (hr : Kd.C k49 w A l.length l) (hc : l.length ≤ c) (h : tree_Check.f k st n l rt = some code) (hcode : (code != 0) = true) :
    Calls Tryd.prog 17 #[.agg #[.int .i64 st, .int .i64 n, .slice A l.length c, .int .i64 rt]] w fun e w' => e = .returned (.tuple #[.string ⟨#[]⟩, .int .i64 code]) ∧ Below w.heap.size w w' := by
  have hu := Tryd.underlying24
  have CK := Aside0.mk (fun (W : World) (hW : Below w.heap.size w W) => tree_Check.calls k st n A c l rt code W (Kd.C_below hr hW) hc h)
  have HB := Aside0.mk (Below.refl w.heap.size w)
  clear hr hc h
  go_enter Tryd.func17, Tryd.ntmps17
  go_wp2_with (first
    | ((with_reducible refine gate_dst (N := 1) rfl ?_); refine box_event ?hg (N := 1) ?hd (cs := #[.int .i64 st, .int .i64 n, .slice A l.length c, .int .i64 rt]) (t := 24) ?hr ?_; (case hd => rfl); (case hg => rfl); (case hr => first | (go_simp; done) | (go_simp; rfl)); intro t hg W9 hbox hb; have n_ := below_step HB.out hb; clear HB; have HB := Aside0.mk n_; obtain ⟨gc0, gc1, gc2, gc3⟩ := four hbox; clear n_ hg hbox hb)
    | (go_at_call 22; (with_reducible refine (CK.out _ HB.out).mono ?_); rintro e_ W9 ⟨rfl, hb⟩; have n_ := below_step HB.out hb; clear HB gc0 gc1 gc2 gc3; have HB := Aside0.mk n_; clear n_ hb))
  go_ret2
  exact ⟨rfl, HB.out⟩
theorem Kp.box {W W' : World} (h : Kp W W') {k : Nat} {cs : Array Value} {ty : TypeId} {fz : Nat × Nat} (hx : W.heap[k]? = some (.cells cs ty fz)) (h1 : ty ≠ 5) (h2 : ty ≠ 89) : W'.heap[k]? = some (.cells cs ty fz) := h k cs ty fz hx h1 h2
theorem lit4 {W : World} {g : Nat} {a b c d : Int} (h : W.heap[g]? = some (.cells #[.int .i64 a, .int .i64 b, .int .i64 c, .int .i64 d] 3 (0, 0))) (x : Int) (h0 : 0 ≤ x) (h1 : x < 4) : W.cell? ⟨g, x.toNat, none⟩ = some (.int .i64 (rd [a, b, c, d] x)) := by
  obtain ⟨c0, c1, c2, c3⟩ := four h
  rcases (show x = 0 ∨ x = 1 ∨ x = 2 ∨ x = 3 by omega) with rfl | rfl | rfl | rfl
  · exact c0
  · exact c1
  · exact c2
  · exact c3
theorem spaced_len (ks : List Int) (h : ∀ x ∈ ks, -9223372036854775808 ≤ x ∧ x ≤ 9223372036854775807) : ∀ j, j ≤ ks.length → (spacedT ks j).length ≤ 21 * j
  | 0, _ => Nat.le_refl _
  | j + 1, hj => by
    have ih := spaced_len ks h j (by omega)
    have hm : rd ks j ∈ ks := by
      unfold rd
      rw [Int.toNat_natCast, List.getD_eq_getElem?_getD, List.getElem?_eq_getElem (show j < ks.length by omega)]
      exact List.getElem_mem _
    have := itoa_len _ (h _ hm).1 (h _ hm).2
    simp only [spacedT, List.length_append, List.length_cons]
    omega
set_option maxHeartbeats 16000000 in
set_option maxRecDepth 100000 in
theorem print_ok (k : Nat) (st n : Int) (A : Option Addr) (c : Nat) (l : List S49) (rt : Int) (w : World) (hp : Pow w) (hr : Kd.C k49 w A l.length l) (hc : l.length ≤ c) (h : tree_Check.f k st n l rt = some 0) (hF : Fine st n l rt) (hB0 : Bytes l) :
    Calls Tryd.prog 17 #[.agg #[.int .i64 st, .int .i64 n, .slice A l.length c, .int .i64 rt]] w fun e w' => e = .returned (.tuple #[.string ⟨(printP st n l rt).1.toArray⟩, .int .i64 (printP st n l rt).2]) ∧ Below w.heap.size w w' := by
  have hu := Tryd.underlying24
  have hu2 := Tryd.underlying49
  have CK := Aside0.mk (fun (W : World) (hW : Below w.heap.size w W) => tree_Check.calls k st n A c l rt 0 W (Kd.C_below hr hW) hc h)
  have HB := Aside0.mk (Below.refl w.heap.size w)
  have HP := Aside0.mk hp
  have HR := Aside0.mk hr
  have HC := Aside0.mk hc
  have HF := Aside0.mk hF
  have HY := Aside0.mk hB0
  clear hr hc h hF hp hB0
  go_enter Tryd.func17, Tryd.ntmps17
  go_wp2_with (first
    | ((with_reducible refine gate_dst (N := 1) rfl ?_); refine box_event ?hg (N := 1) ?hd (cs := #[.int .i64 st, .int .i64 n, .slice A l.length c, .int .i64 rt]) (t := 24) ?hr ?_; (case hd => rfl); (case hg => rfl); (case hr => first | (go_simp; done) | (go_simp; rfl)); intro t hg W9 hbox hb; have n_ := below_step HB.out hb; clear HB; have HB := Aside0.mk n_; have BX := Aside0.mk hbox; obtain ⟨gc0, gc1, gc2, gc3⟩ := four hbox; clear n_ hg hbox hb)
    | (go_at_call 22; (with_reducible refine (CK.out _ HB.out).mono ?_); rintro e_ W9 ⟨rfl, hb⟩; have n_ := below_step HB.out hb; have m_ := blk_below BX.out hb; clear CK HB BX gc0 gc1 gc2 gc3; have HB := Aside0.mk n_; have BX := Aside0.mk m_; obtain ⟨gc0, gc1, gc2, gc3⟩ := four m_; clear n_ m_ hb)
    | ((with_reducible refine gate_dst (N := 5) rfl ?_); refine box_event ?hg5 (N := 5) ?hd5 (cs := #[.pointer none, .slice none 0 0]) (t := 89) ?hr5 ?_; (case hd5 => rfl); (case hg5 => rfl); (case hr5 => first | (go_simp; done) | (go_simp; rfl)); intro b hg W9 hbox hb; have F := Aside0.mk (TP.start HB.out hg hbox hb); have m_ := blk_below BX.out hb; clear HB BX gc0 gc1 gc2 gc3 hg hbox hb; have BX := Aside0.mk m_; obtain ⟨gc0, gc1, gc2, gc3⟩ := four m_; clear m_)
    | (go_at_call 51; have h_ := TP.text F.out [116, 114, 101, 101] (by simp); with_reducible refine h_.mono ?_; clear h_; rintro e_ W9 ⟨⟨v_, rfl⟩, hF_, hk_⟩; have m_ := Kp.box hk_ BX.out (by decide) (by decide); clear F BX gc0 gc1 gc2 gc3 hk_; have F := Aside0.mk hF_; have BX := Aside0.mk m_; obtain ⟨gc0, gc1, gc2, gc3⟩ := four m_; clear hF_ m_))
  have G0 := Aside0.mk (heap_alloc_new W9 (.cells #[.int .i64 st, .int .i64 n, .int .i64 (l.length : Int), .int .i64 rt] 3))
  have F0 := Aside0.mk (F.out.on (below_alloc (Below.refl _ W9) (.cells #[.int .i64 st, .int .i64 n, .int .i64 (l.length : Int), .int .i64 rt] 3)))
  have B0 := Aside0.mk (blk_below BX.out (below_alloc (Below.refl _ W9) (.cells #[.int .i64 st, .int .i64 n, .int .i64 (l.length : Int), .int .i64 rt] 3)))
  clear F BX gc0 gc1 gc2 gc3
  generalize hg0 : W9.heap.size = g at *
  go_loopg [7, 29] 4 (fun g_ s7 s29 wr => ∃ (x : Int), s29 = .int .i64 x ∧ Aside0 (0 ≤ x ∧ (g_ : Int) = 4 - x) ∧ Aside0 (TP w b ([116, 114, 101, 101] ++ spacedT [st, n, (l.length : Int), rt] x.toNat) wr) ∧ Aside0 (wr.heap[t]? = some (.cells #[.int .i64 st, .int .i64 n, .slice A l.length c, .int .i64 rt] 24 (0, 0))) ∧ Aside0 (wr.heap[g]? = some (.cells #[.int .i64 st, .int .i64 n, .int .i64 (l.length : Int), .int .i64 rt] 3 (0, 0))))
  case atStart => exact ⟨0, rfl, ⟨by omega, by omega⟩, F0, B0, G0⟩
  case round =>
    obtain ⟨x, rfl, HX, F, BX, G⟩ := hrel
    clear F0 B0 G0
    have hall : ∀ v ∈ [st, n, (l.length : Int), rt], -9223372036854775808 ≤ v ∧ v ≤ 9223372036854775807 := by
      have hf := HF.out
      have f1 := hf.hst
      have f2 := hf.hn
      have f3 := hf.hl
      have f4 := hf.hrt
      intro v hv
      simp only [List.mem_cons, List.not_mem_nil, or_false] at hv
      rcases hv with rfl | rfl | rfl | rfl <;> omega
    have HV := Aside0.mk hall
    clear hall
    by_cases q : x < 4
    · have p0 : 0 ≤ x := HX.out.1
      have k0_ := lit4 G.out x p0 q
      have w1_ : wrap64 (x + 1) = x + 1 := by unfold wrap64; omega
      have hm : rd [st, n, (l.length : Int), rt] x ∈ [st, n, (l.length : Int), rt] := by
        unfold rd
        rw [List.getD_eq_getElem?_getD, List.getElem?_eq_getElem (show x.toNat < 4 by omega)]
        exact List.getElem_mem _
      have hv := HV.out _ hm
      have hsp : spacedT [st, n, (l.length : Int), rt] (x + 1).toNat = spacedT [st, n, (l.length : Int), rt] x.toNat ++ (32 :: Lib.itoa (rd [st, n, (l.length : Int), rt] x)) := by
        rw [show (x + 1).toNat = x.toNat + 1 by omega]
        show _ ++ (32 :: Lib.itoa (rd _ (x.toNat : Int))) = _
        rw [show ((x.toNat : Nat) : Int) = x by omega]
      have hlen := spaced_len [st, n, (l.length : Int), rt] HV.out x.toNat (show x.toNat ≤ 4 by omega)
      have HSP := Aside0.mk hsp
      have HLEN := Aside0.mk hlen
      have HVV := Aside0.mk hv
      clear hm hv hsp hlen
      generalize spacedT [st, n, (l.length : Int), rt] x.toNat = sp at *
      generalize rd [st, n, (l.length : Int), rt] x = v at *
      have hno := eq_false (show ¬ (9223372036854775807 < 1 + (Lib.itoa v).length) by have := itoa_len v HVV.out.1 HVV.out.2; omega)
      go_wp2_with (first
        | (go_at_call 52; (with_reducible refine (TP.num F.out v HVV.out.1 HVV.out.2 HP.out).mono ?_); rintro e_ W9 ⟨rfl, hF_, hk_⟩; have m_ := Kp.box hk_ BX.out (by decide) (by decide); have G_ := Kp.box hk_ G.out (by decide) (by decide); clear F BX G hk_ k0_; have F := Aside0.mk hF_; have BX := Aside0.mk m_; have G := Aside0.mk G_; clear hF_ m_ G_)
        | (go_at_call 51; have h_ := TP.text2 F.out _ ([32] ++ Lib.itoa v) (cat_eq [32] _) (by have := itoa_len v HVV.out.1 HVV.out.2; have := HLEN.out; have := HX.out; simp; omega); with_reducible refine h_.mono ?_; clear h_; rintro e_ W9 ⟨⟨v_, rfl⟩, hF_, hk_⟩; have m_ := Kp.box hk_ BX.out (by decide) (by decide); have G_ := Kp.box hk_ G.out (by decide) (by decide); clear F BX G hk_; have F := Aside0.mk hF_; have BX := Aside0.mk m_; have G := Aside0.mk G_; clear hF_ m_ G_))
      go_roundg (4 - (x + 1).toNat)
      case measure => go_light; have := HX.out; omega
      case rel =>
        go_light
        exact ⟨x + 1, by simp [w1_], ⟨by omega, by have := HX.out; omega⟩, ⟨by rw [HSP.out]; simpa using F.out⟩, BX, G⟩
    · have hx4 : x = 4 := by have := HX.out; omega
      subst hx4
      --MAIN
      have hsp := spaced_len [st, n, (l.length : Int), rt] HV.out 4 (Nat.le_refl _)
      have HSP := Aside0.mk hsp
      clear hsp HV G
      have F1 := Aside0.mk (show TP w b ([116, 114, 101, 101] ++ spacedT [st, n, (l.length : Int), rt] 4) wr from F.out)
      clear F
      have F := F1
      clear F1
      obtain ⟨gc0, gc1, gc2, gc3⟩ := four BX.out
      go_wp2_with (first
        | (go_at_call 51; have h_ := TP.text2 F.out _ ([10]) (rfl) (by have := HSP.out; simp; omega); with_reducible refine h_.mono ?_; clear h_; rintro e_ W9 ⟨⟨v_, rfl⟩, hF_, hk_⟩; have m_ := Kp.box hk_ BX.out (by decide) (by decide); clear F BX hk_ gc0 gc1 gc2 gc3; have F := Aside0.mk hF_; have BX := Aside0.mk m_; obtain ⟨gc0, gc1, gc2, gc3⟩ := four m_; clear hF_ m_))
      have hhead : headT st n (l.length : Int) rt = [116, 114, 101, 101] ++ spacedT [st, n, (l.length : Int), rt] 4 ++ [10] := by
        unfold headT
        simp only [List.append_assoc]
      have F1 := Aside0.mk (show TP w b (headT st n (l.length : Int) rt) W9 from hhead ▸ F.out)
      have HH := Aside0.mk (show (headT st n (l.length : Int) rt).length ≤ 1048576 by rw [hhead]; have := HSP.out; simp only [List.length_append, List.length_cons, List.length_nil]; omega)
      clear F hhead HSP gc0 gc1 gc2 gc3
      generalize hRR : restT l l.length 0 (headT st n (l.length : Int) rt) = RR
      have hres : printP st n l rt = outT RR := by
        unfold printP
        rw [hRR]
      have HRES := Aside0.mk hres
      have HRR := Aside0.mk hRR
      clear hres hRR
      generalize headT st n (l.length : Int) rt = H0 at *
      go_loopg [42] l.length (fun g_ s42 wq => ∃ (x : Int) (T : List UInt8), s42 = .int .i64 x ∧ Aside0 (0 ≤ x ∧ (g_ : Int) = l.length - x) ∧ Aside0 (restT l g_ x.toNat T = RR) ∧ Aside0 (T.length ≤ 1048576) ∧ Aside0 (TP w b T wq) ∧ Aside0 (wq.heap[t]? = some (.cells #[.int .i64 st, .int .i64 n, .slice A l.length c, .int .i64 rt] 24 (0, 0))))
      case atStart => exact ⟨0, _, rfl, ⟨by omega, by omega⟩, HRR, HH, F1, BX⟩
      case round =>
        obtain ⟨x, T, rfl, HX, HRR, HT, F, BX⟩ := hrel
        clear F1 HH
        by_cases q : x < (l.length : Int)
        case neg =>
          have hg0 : gk = 0 := by have := HX.out; omega
          subst hg0
          have hTR : some T = RR := HRR.out
          go_wp2_with (first
            | (go_at_call 55; (with_reducible refine (TP.string F.out).mono ?_); rintro e_ W9 ⟨rfl, hb_⟩; have HE := Aside0.mk hb_; clear hb_ F BX))
          go_ret2
          exact ⟨by rw [HRES.out, ← hTR]; rfl, HE.out⟩
        case pos =>
          have p0 : 0 ≤ x := HX.out.1
          have w1_ : wrap64 (x + 1) = x + 1 := by have := HF.out.hl; unfold wrap64; omega
          obtain ⟨d, rfl⟩ : ∃ d, gk = d + 1 := ⟨gk - 1, by have := HX.out; omega⟩
          obtain ⟨ad, A1, c1, rfl, k0w, k1w, hc1, hK1⟩ := at_T49 HR.out x p0 q
          have k0_ := pw_cell_below F.out.be k0w
          have k1_ := pw_cell_below F.out.be k1w
          have hK0 : Kd.C (Kd.int .i64) w A1 (rd_T49 l x).f1.length (rd_T49 l x).f1 := hK1
          clear k0w k1w
          have HK := Aside0.mk hK0
          have hnd : rd_T49 l x = nd l x.toNat := rfl
          have hgood := HF.out.good x.toNat (by omega)
          have hby := nd_bytes HY.out x.toNat
          have hst := HF.out.hst
          have hll := HF.out.hl
          have hRR2 : (if 1048576 < (T ++ lineT (nd l x.toNat)).length then none else restT l d (x.toNat + 1) (T ++ lineT (nd l x.toNat))) = RR := HRR.out
          rw [← hnd] at hgood hby hRR2
          have hkl : (rd_T49 l x).f1.length ≤ 256 := by rcases hgood with h | h <;> omega
          have hkv : ∀ q, q < (rd_T49 l x).f1.length → -9223372036854775808 ≤ rd (rd_T49 l x).f1 q ∧ rd (rd_T49 l x).f1 q ≤ 9223372036854775807 := fun q hq => by
            rcases hgood with h | h
            · omega
            · have := h.2.2 q hq
              omega
          generalize rd_T49 l x = X at *
          obtain ⟨s, ks⟩ := X
          dsimp only at *
          have HR2 := Aside0.mk hRR2
          have HG := Aside0.mk (And.intro hby (And.intro hkl hkv))
          have KL := Aside0.mk (fun j hj => kidsT_len ks hkv j hj)
          clear hK1 hK0 hnd hgood hby hst hll hRR2 hkl hkv hc1 HRR
          obtain ⟨gc0, gc1, gc2, gc3⟩ := four BX.out
          have arm : True := trivial
          by_cases hlf : ks.length = 0
          · have l0_ : ((ks.length : Int) == 0) = true := by simp [hlf]
            have ws_ : wrap64 s = s := by have := HG.out; unfold wrap64; omega
            have hno := eq_false (show ¬ (9223372036854775807 < 2 + (Lib.itoa s).length) by have h3 := HG.out; have := itoa_len s (by omega) (by omega); omega)
            go_upto_region 17 with (first
              | ((with_reducible refine gate_dst (N := 9) rfl ?_); refine box_event ?hg9 (N := 9) ?hd9 (cs := #[.int .u8 0, .slice none 0 0]) (t := 49) ?hr9 ?_; (case hd9 => rfl); (case hg9 => rfl); (case hr9 => first | (go_simp; done) | (go_simp; rfl)); intro g9 hg9 W8 hbox hb; have NB := Aside0.mk hbox; have hb9 := Aside0.mk hb; have y0_ := (blk_cell hbox 0).trans (show _ = some (Value.int .u8 0) from rfl); have y1_ := (blk_cell hbox 1).trans (show _ = some (Value.slice none 0 0) from rfl); have z0_ := blk_frozen hbox 0; have z1_ := blk_frozen hbox 1; have GE := Aside0.mk hg9; clear hbox hb hg9 k0_ k1_ gc0 gc1 gc2 gc3)
              | ((with_reducible refine gate_store (t := 49) (p := 9) rfl ?_); refine store_event (t := 49) (p := 9) (v := ?vo_) (w1 := (W8.setCell ⟨g9, 0, none⟩ (.int .u8 s)).setCell ⟨g9, 1, none⟩ (.slice A1 ks.length c1)) ?hgs ?hos ?hns ?hrs ?_; (case hos => rfl); (case hgs => rfl); (case hns => rfl); (case hrs => first | (go_simp; done) | (go_simp; rfl)); rintro W7 rfl; have hb_ : Below wr.heap.size wr ((W8.setCell ⟨g9, 0, none⟩ (.int .u8 s)).setCell ⟨g9, 1, none⟩ (.slice A1 ks.length c1)) := below_set (below_set hb9.out (Nat.le_of_eq GE.out.symm)) (Nat.le_of_eq GE.out.symm); have nb_ := blk_put (blk_put NB.out 0 (.int .u8 s) rfl) 1 (.slice A1 ks.length c1) rfl; have F_ := Aside0.mk (F.out.on hb_); have m_ := Aside0.mk (blk_below BX.out hb_); clear y0_ y1_ z0_ z1_ F BX NB hb9 GE; generalize (W8.setCell ⟨g9, 0, none⟩ (.int .u8 s)).setCell ⟨g9, 1, none⟩ (.slice A1 ks.length c1) = W7 at *; have F := F_; have BX := m_; have NB := Aside0.mk nb_; have j0_ := (blk_cell nb_ 0).trans (show _ = some (Value.int .u8 s) from rfl); have j1_ := (blk_cell nb_ 1).trans (show _ = some (Value.slice A1 ks.length c1) from rfl); clear F_ m_ nb_ hb_)
              | (go_at_call 52; (with_reducible refine (TP.num F.out (s) (by have := HG.out; omega) (by have := HG.out; omega) HP.out).mono ?_); rintro e_ W9 ⟨rfl, hF_, hk_⟩; have m_ := Kp.box hk_ BX.out (by decide) (by decide); have n_ := Kp.box hk_ NB.out (by decide) (by decide); clear F BX NB hk_ j0_ j1_; have F := Aside0.mk hF_; have BX := Aside0.mk m_; have NB := Aside0.mk n_; have j0_ := (blk_cell n_ 0).trans (show _ = some (Value.int .u8 s) from rfl); have j1_ := (blk_cell n_ 1).trans (show _ = some (Value.slice A1 ks.length c1) from rfl); clear hF_ m_ n_)
              | (go_at_call 51; have h_ := TP.text2 F.out _ ([61, 32] ++ Lib.itoa s) (cat_eq [61, 32] _) (by have := HT.out; have h3 := HG.out; have := itoa_len s (by omega) (by omega); simp only [List.length_append, List.length_cons, List.length_nil]; omega); with_reducible refine h_.mono ?_; clear h_; rintro e_ W9 ⟨⟨v_, rfl⟩, hF_, hk_⟩; have m_ := Kp.box hk_ BX.out (by decide) (by decide); have n_ := Kp.box hk_ NB.out (by decide) (by decide); clear F BX NB hk_ j0_ j1_; have F := Aside0.mk hF_; have BX := Aside0.mk m_; have NB := Aside0.mk n_; have j0_ := (blk_cell n_ 0).trans (show _ = some (Value.int .u8 s) from rfl); have j1_ := (blk_cell n_ 1).trans (show _ = some (Value.slice A1 ks.length c1) from rfl); clear hF_ m_ n_))
            go_wp2
            go_loopg [59] ks.length (fun g2_ s59 wx => ∃ (y : Int), s59 = .int .i64 y ∧ Aside0 (0 ≤ y ∧ (g2_ : Int) = ks.length - y) ∧ Aside0 (TP w b (T ++ ([61, 32] ++ Lib.itoa s) ++ kidsT ks y.toNat) wx) ∧ Aside0 (wx.heap[t]? = some (.cells #[.int .i64 st, .int .i64 n, .slice (some ad) l.length c, .int .i64 rt] 24 (0, 0))))
            case atStart => exact ⟨0, rfl, ⟨by omega, by omega⟩, ⟨by rw [show kidsT ks (0 : Int).toNat = [] from rfl, List.append_nil]; exact F.out⟩, BX⟩
            case round =>
              obtain ⟨y, rfl, HY2, F, BX⟩ := hrel
              clear NB j0_ j1_
              by_cases q2 : y < (ks.length : Int)
              case pos =>
                exfalso
                have := HY2.out
                omega
              case neg =>
                have hy : y.toNat = ks.length := by have := HY2.out; omega
                rw [hy] at F
                have hline : T ++ lineT ⟨s, ks⟩ = T ++ ([61, 32] ++ Lib.itoa s) ++ kidsT ks ks.length ++ [10] := by
                  unfold lineT
                  dsimp only
                  rw [if_pos hlf]
                  simp only [List.append_assoc, List.nil_append]
                have hlen2 : (T ++ ([61, 32] ++ Lib.itoa s) ++ kidsT ks ks.length).length ≤ 2000000 := by
                  have h1 := KL.out ks.length (Nat.le_refl _)
                  have h2 := HT.out
                  have h3 := HG.out
                  (try (have h4 := itoa_len s (by omega) (by omega)))
                  simp only [List.length_append, List.length_cons, List.length_nil]
                  omega
                have HL2 := Aside0.mk hlen2
                rw [hline] at HR2
                clear hline hlen2
                obtain ⟨N, hN⟩ : ∃ N : Int, N = ((T ++ ([61, 32] ++ Lib.itoa s) ++ kidsT ks ks.length ++ [10]).length : Int) := ⟨_, rfl⟩
                have HN := Aside0.mk hN
                by_cases big : 1048576 < (T ++ ([61, 32] ++ Lib.itoa s) ++ kidsT ks ks.length ++ [10]).length
                · have big_ : N > 1048576 := by omega
                  have hRN : none = RR := by
                    have h := HR2.out
                    rw [if_pos big] at h
                    exact h
                  have HRN := Aside0.mk hRN
                  clear hRN big HR2 hN
                  go_wp2_with (first
                    | (go_at_call 53; have h_ := TP.byte F.out 10 10 rfl (by have := HL2.out; omega); with_reducible refine h_.mono ?_; clear h_; rintro e_ W9 ⟨rfl, hF_, hk_⟩; have m_ := Kp.box hk_ BX.out (by decide) (by decide); clear F BX hk_; have F := Aside0.mk hF_; have BX := Aside0.mk m_; clear hF_ m_)
                    | (go_at_call 54; have h_ := TP.len F.out; rw [← HN.out] at h_; with_reducible refine h_.mono ?_; clear h_; rintro e_ W9 ⟨rfl, rfl⟩))
                  go_ret2
                  exact ⟨by rw [HRES.out, ← HRN.out]; rfl, F.out.be⟩
                · have big_ : ¬ N > 1048576 := by omega
                  have HR3 : Aside0 (restT l d (x.toNat + 1) (T ++ ([61, 32] ++ Lib.itoa s) ++ kidsT ks ks.length ++ [10]) = RR) := ⟨by
                    have h := HR2.out
                    rw [if_neg big] at h
                    exact h⟩
                  have HT3 := Aside0.mk (show (T ++ ([61, 32] ++ Lib.itoa s) ++ kidsT ks ks.length ++ [10]).length ≤ 1048576 by omega)
                  clear big HR2 hN
                  go_wp2_with (first
                    | (go_at_call 53; have h_ := TP.byte F.out 10 10 rfl (by have := HL2.out; omega); with_reducible refine h_.mono ?_; clear h_; rintro e_ W9 ⟨rfl, hF_, hk_⟩; have m_ := Kp.box hk_ BX.out (by decide) (by decide); clear F BX hk_; have F := Aside0.mk hF_; have BX := Aside0.mk m_; clear hF_ m_)
                    | (go_at_call 54; have h_ := TP.len F.out; rw [← HN.out] at h_; with_reducible refine h_.mono ?_; clear h_; rintro e_ W9 ⟨rfl, rfl⟩))
                  go_roundg d
                  case measure => go_light; omega
                  case rel =>
                    go_light
                    exact ⟨x + 1, _, by simp [w1_], ⟨by omega, by have := HX.out; omega⟩, ⟨by rw [show (x + 1).toNat = x.toNat + 1 by omega]; exact HR3.out⟩, HT3, F, BX⟩
          · have l0_ : ((ks.length : Int) == 0) = false := by simp [hlf]
            go_upto_region 17 with (first
              | ((with_reducible refine gate_dst (N := 9) rfl ?_); refine box_event ?hg9 (N := 9) ?hd9 (cs := #[.int .u8 0, .slice none 0 0]) (t := 49) ?hr9 ?_; (case hd9 => rfl); (case hg9 => rfl); (case hr9 => first | (go_simp; done) | (go_simp; rfl)); intro g9 hg9 W8 hbox hb; have NB := Aside0.mk hbox; have hb9 := Aside0.mk hb; have y0_ := (blk_cell hbox 0).trans (show _ = some (Value.int .u8 0) from rfl); have y1_ := (blk_cell hbox 1).trans (show _ = some (Value.slice none 0 0) from rfl); have z0_ := blk_frozen hbox 0; have z1_ := blk_frozen hbox 1; have GE := Aside0.mk hg9; clear hbox hb hg9 k0_ k1_ gc0 gc1 gc2 gc3)
              | ((with_reducible refine gate_store (t := 49) (p := 9) rfl ?_); refine store_event (t := 49) (p := 9) (v := ?vo_) (w1 := (W8.setCell ⟨g9, 0, none⟩ (.int .u8 s)).setCell ⟨g9, 1, none⟩ (.slice A1 ks.length c1)) ?hgs ?hos ?hns ?hrs ?_; (case hos => rfl); (case hgs => rfl); (case hns => rfl); (case hrs => first | (go_simp; done) | (go_simp; rfl)); rintro W7 rfl; have hb_ : Below wr.heap.size wr ((W8.setCell ⟨g9, 0, none⟩ (.int .u8 s)).setCell ⟨g9, 1, none⟩ (.slice A1 ks.length c1)) := below_set (below_set hb9.out (Nat.le_of_eq GE.out.symm)) (Nat.le_of_eq GE.out.symm); have nb_ := blk_put (blk_put NB.out 0 (.int .u8 s) rfl) 1 (.slice A1 ks.length c1) rfl; have F_ := Aside0.mk (F.out.on hb_); have m_ := Aside0.mk (blk_below BX.out hb_); clear y0_ y1_ z0_ z1_ F BX NB hb9 GE; generalize (W8.setCell ⟨g9, 0, none⟩ (.int .u8 s)).setCell ⟨g9, 1, none⟩ (.slice A1 ks.length c1) = W7 at *; have F := F_; have BX := m_; have NB := Aside0.mk nb_; have j0_ := (blk_cell nb_ 0).trans (show _ = some (Value.int .u8 s) from rfl); have j1_ := (blk_cell nb_ 1).trans (show _ = some (Value.slice A1 ks.length c1) from rfl); clear F_ m_ nb_ hb_))
            go_wp2
            go_loopg [59] ks.length (fun g2_ s59 wx => ∃ (y : Int), s59 = .int .i64 y ∧ Aside0 (0 ≤ y ∧ (g2_ : Int) = ks.length - y) ∧ Aside0 (TP w b (T ++ kidsT ks y.toNat) wx) ∧ Aside0 (wx.heap[t]? = some (.cells #[.int .i64 st, .int .i64 n, .slice (some ad) l.length c, .int .i64 rt] 24 (0, 0))))
            case atStart => exact ⟨0, rfl, ⟨by omega, by omega⟩, ⟨by rw [show kidsT ks (0 : Int).toNat = [] from rfl, List.append_nil]; exact F.out⟩, BX⟩
            case round =>
              obtain ⟨y, rfl, HY2, F, BX⟩ := hrel
              clear NB j0_ j1_
              by_cases q2 : y < (ks.length : Int)
              case pos =>
                have r0 : 0 ≤ y := HY2.out.1
                have w2_ : wrap64 (y + 1) = y + 1 := by have := HG.out; unfold wrap64; omega
                obtain ⟨a1, rfl, v0_⟩ := Kd.at_int (Kd.C_below HK.out F.out.be) y r0 q2
                have hv := HG.out.2.2 y.toNat (by omega)
                rw [show ((y.toNat : Nat) : Int) = y by omega] at hv
                have hkk : kidsT ks (y + 1).toNat = kidsT ks y.toNat ++ ((if 0 < y.toNat then [32] else []) ++ Lib.itoa (rd ks y)) := by
                  rw [show (y + 1).toNat = y.toNat + 1 by omega]
                  show _ ++ (_ ++ Lib.itoa (rd ks (y.toNat : Int))) = _
                  rw [show ((y.toNat : Nat) : Int) = y by omega]
                have hkl := KL.out y.toNat (by omega)
                have HVV := Aside0.mk hv
                have HKK := Aside0.mk hkk
                have HKL := Aside0.mk hkl
                have HLT := Aside0.mk (show y.toNat ≤ 256 by have := HG.out; omega)
                clear hv hkk hkl
                generalize rd ks y = v at *
                generalize kidsT ks y.toNat = kt at *
                by_cases c2 : y > 0
                · have HKK2 : Aside0 (kidsT ks (y + 1).toNat = kt ++ ([32] ++ Lib.itoa v)) := ⟨by rw [HKK.out, if_pos (by omega)]⟩
                  clear HKK
                  go_wp2_with (first
                    | (go_at_call 53; have h_ := TP.byte F.out 32 32 rfl (by have := HT.out; have := HKL.out; have := HLT.out; have h3 := HG.out; (try (have h4 := itoa_len s (by omega) (by omega))); have := itoa_len v HVV.out.1 HVV.out.2; simp only [List.length_append, List.length_cons, List.length_nil]; omega); with_reducible refine h_.mono ?_; clear h_; rintro e_ W9 ⟨rfl, hF_, hk_⟩; have m_ := Kp.box hk_ BX.out (by decide) (by decide); clear F BX hk_; have F := Aside0.mk hF_; have BX := Aside0.mk m_; clear hF_ m_)
                    | (go_at_call 52; (with_reducible refine (TP.num F.out (v) HVV.out.1 HVV.out.2 HP.out).mono ?_); rintro e_ W9 ⟨rfl, hF_, hk_⟩; have m_ := Kp.box hk_ BX.out (by decide) (by decide); clear F BX hk_; have F := Aside0.mk hF_; have BX := Aside0.mk m_; clear hF_ m_)
                    | (go_at_call 51; have h_ := TP.text2 F.out _ (Lib.itoa v) (rfl) (by have := HT.out; have := HKL.out; have := HLT.out; have h3 := HG.out; (try (have h4 := itoa_len s (by omega) (by omega))); have := itoa_len v HVV.out.1 HVV.out.2; simp only [List.length_append, List.length_cons, List.length_nil]; omega); with_reducible refine h_.mono ?_; clear h_; rintro e_ W9 ⟨⟨v_, rfl⟩, hF_, hk_⟩; have m_ := Kp.box hk_ BX.out (by decide) (by decide); clear F BX hk_; have F := Aside0.mk hF_; have BX := Aside0.mk m_; clear hF_ m_))
                  go_roundg (ks.length - (y + 1).toNat)
                  case measure => go_light; have := HY2.out; omega
                  case rel =>
                    go_light
                    exact ⟨y + 1, by simp [w2_], ⟨by omega, by have := HY2.out; omega⟩, ⟨by rw [HKK2.out]; simpa only [List.append_assoc] using F.out⟩, BX⟩
                · have HKK2 : Aside0 (kidsT ks (y + 1).toNat = kt ++ ([] ++ Lib.itoa v)) := ⟨by rw [HKK.out, if_neg (by omega)]⟩
                  clear HKK
                  go_wp2_with (first
                    | (go_at_call 53; have h_ := TP.byte F.out 32 32 rfl (by have := HT.out; have := HKL.out; have := HLT.out; have h3 := HG.out; (try (have h4 := itoa_len s (by omega) (by omega))); have := itoa_len v HVV.out.1 HVV.out.2; simp only [List.length_append, List.length_cons, List.length_nil]; omega); with_reducible refine h_.mono ?_; clear h_; rintro e_ W9 ⟨rfl, hF_, hk_⟩; have m_ := Kp.box hk_ BX.out (by decide) (by decide); clear F BX hk_; have F := Aside0.mk hF_; have BX := Aside0.mk m_; clear hF_ m_)
                    | (go_at_call 52; (with_reducible refine (TP.num F.out (v) HVV.out.1 HVV.out.2 HP.out).mono ?_); rintro e_ W9 ⟨rfl, hF_, hk_⟩; have m_ := Kp.box hk_ BX.out (by decide) (by decide); clear F BX hk_; have F := Aside0.mk hF_; have BX := Aside0.mk m_; clear hF_ m_)
                    | (go_at_call 51; have h_ := TP.text2 F.out _ (Lib.itoa v) (rfl) (by have := HT.out; have := HKL.out; have := HLT.out; have h3 := HG.out; (try (have h4 := itoa_len s (by omega) (by omega))); have := itoa_len v HVV.out.1 HVV.out.2; simp only [List.length_append, List.length_cons, List.length_nil]; omega); with_reducible refine h_.mono ?_; clear h_; rintro e_ W9 ⟨⟨v_, rfl⟩, hF_, hk_⟩; have m_ := Kp.box hk_ BX.out (by decide) (by decide); clear F BX hk_; have F := Aside0.mk hF_; have BX := Aside0.mk m_; clear hF_ m_))
                  go_roundg (ks.length - (y + 1).toNat)
                  case measure => go_light; have := HY2.out; omega
                  case rel =>
                    go_light
                    exact ⟨y + 1, by simp [w2_], ⟨by omega, by have := HY2.out; omega⟩, ⟨by rw [HKK2.out]; simpa only [List.append_assoc, List.nil_append] using F.out⟩, BX⟩
              case neg =>
                have hy : y.toNat = ks.length := by have := HY2.out; omega
                rw [hy] at F
                have hline : T ++ lineT ⟨s, ks⟩ = T ++ kidsT ks ks.length ++ [10] := by
                  unfold lineT
                  dsimp only
                  rw [if_neg hlf]
                  simp only [List.append_assoc, List.nil_append]
                have hlen2 : (T ++ kidsT ks ks.length).length ≤ 2000000 := by
                  have h1 := KL.out ks.length (Nat.le_refl _)
                  have h2 := HT.out
                  have h3 := HG.out
                  (try (have h4 := itoa_len s (by omega) (by omega)))
                  simp only [List.length_append, List.length_cons, List.length_nil]
                  omega
                have HL2 := Aside0.mk hlen2
                rw [hline] at HR2
                clear hline hlen2
                obtain ⟨N, hN⟩ : ∃ N : Int, N = ((T ++ kidsT ks ks.length ++ [10]).length : Int) := ⟨_, rfl⟩
                have HN := Aside0.mk hN
                by_cases big : 1048576 < (T ++ kidsT ks ks.length ++ [10]).length
                · have big_ : N > 1048576 := by omega
                  have hRN : none = RR := by
                    have h := HR2.out
                    rw [if_pos big] at h
                    exact h
                  have HRN := Aside0.mk hRN
                  clear hRN big HR2 hN
                  go_wp2_with (first
                    | (go_at_call 53; have h_ := TP.byte F.out 10 10 rfl (by have := HL2.out; omega); with_reducible refine h_.mono ?_; clear h_; rintro e_ W9 ⟨rfl, hF_, hk_⟩; have m_ := Kp.box hk_ BX.out (by decide) (by decide); clear F BX hk_; have F := Aside0.mk hF_; have BX := Aside0.mk m_; clear hF_ m_)
                    | (go_at_call 54; have h_ := TP.len F.out; rw [← HN.out] at h_; with_reducible refine h_.mono ?_; clear h_; rintro e_ W9 ⟨rfl, rfl⟩))
                  go_ret2
                  exact ⟨by rw [HRES.out, ← HRN.out]; rfl, F.out.be⟩
                · have big_ : ¬ N > 1048576 := by omega
                  have HR3 : Aside0 (restT l d (x.toNat + 1) (T ++ kidsT ks ks.length ++ [10]) = RR) := ⟨by
                    have h := HR2.out
                    rw [if_neg big] at h
                    exact h⟩
                  have HT3 := Aside0.mk (show (T ++ kidsT ks ks.length ++ [10]).length ≤ 1048576 by omega)
                  clear big HR2 hN
                  go_wp2_with (first
                    | (go_at_call 53; have h_ := TP.byte F.out 10 10 rfl (by have := HL2.out; omega); with_reducible refine h_.mono ?_; clear h_; rintro e_ W9 ⟨rfl, hF_, hk_⟩; have m_ := Kp.box hk_ BX.out (by decide) (by decide); clear F BX hk_; have F := Aside0.mk hF_; have BX := Aside0.mk m_; clear hF_ m_)
                    | (go_at_call 54; have h_ := TP.len F.out; rw [← HN.out] at h_; with_reducible refine h_.mono ?_; clear h_; rintro e_ W9 ⟨rfl, rfl⟩))
                  go_roundg d
                  case measure => go_light; omega
                  case rel =>
                    go_light
                    exact ⟨x + 1, _, by simp [w1_], ⟨by omega, by have := HX.out; omega⟩, ⟨by rw [show (x + 1).toNat = x.toNat + 1 by omega]; exact HR3.out⟩, HT3, F, BX⟩
end Go.Proofs.YtbnonnogkgbpiaaDoor.TreeText
end
section
namespace Go.Proofs.YtbnonnogkgbpiaaDoor.AliveT
open Go Go.RowKit Go.Proofs.YtbnonnogkgbpiaaDoorW.PrintWords Go.Proofs.YtbnonnogkgbpiaaDoorW.PrintLast Go.Proofs.YtbnonnogkgbpiaaDoorW.PrintMore Go.Proofs.YtbnonnogkgbpiaaDoor.PT Go.Proofs.YtbnonnogkgbpiaaDoor.TreePlain Go.Proofs.YtbnonnogkgbpiaaDoor.TreeText Go.Proofs.YtbnonnogkgbpiaaDoor.Forest Go.Proofs.YtbnonnogkgbpiaaDoor.Says
set_option linter.unusedVariables false
def dl : List S49 := [⟨0, []⟩, ⟨1, []⟩, ⟨0, [0, 1]⟩, ⟨0, [1, 0]⟩, ⟨0, [2, 3]⟩]
theorem d_at : tree_At.f 50 2 2 dl 4 [1, 0] = some (1, 0) := by kernel_rfl
theorem d_check : tree_Check.f 50 2 2 dl 4 = some 0 := by kernel_rfl
theorem d_keeps : tree_Keeps.f 50 2 2 dl 4 [1, 0] = some (true, 0) := by kernel_rfl
theorem d_chk : chk 2 2 dl 4 = 0 := by kernel_rfl
theorem d_of : ofP 2 2 [0, 1, 1, 0] = ((2, 2, dl, 4), 0) := by kernel_rfl
theorem d_text : printP 2 2 dl 4 = ([116, 114, 101, 101, 32, 50, 32, 50, 32, 53, 32, 52, 10, 61, 32, 48, 10, 61, 32, 49, 10, 48, 32, 49, 10, 49, 32, 48, 10, 50, 32, 51, 10], 0) := by kernel_rfl
end Go.Proofs.YtbnonnogkgbpiaaDoor.AliveT
end
section
namespace Go.Proofs.YtbnonnogkgbpiaaDoor.AliveT
open Go Go.RowKit Go.Proofs.YtbnonnogkgbpiaaDoorW.PrintWords Go.Proofs.YtbnonnogkgbpiaaDoorW.PrintLast Go.Proofs.YtbnonnogkgbpiaaDoorW.PrintMore Go.Proofs.YtbnonnogkgbpiaaDoor.PT Go.Proofs.YtbnonnogkgbpiaaDoor.TreePlain Go.Proofs.YtbnonnogkgbpiaaDoor.TreeText Go.Proofs.YtbnonnogkgbpiaaDoor.Forest Go.Proofs.YtbnonnogkgbpiaaDoor.Says
set_option linter.unusedVariables false
set_option linter.unusedSimpArgs false
theorem d_bytes : Bytes dl := by
  intro x hx
  simp only [dl, List.mem_cons, List.not_mem_nil, or_false] at hx
  rcases hx with rfl | rfl | rfl | rfl | rfl <;> exact ⟨by decide, by decide⟩
theorem lit_c {W : World} {e : TypeId} (k : IntKind) (xs : List Int) (hm : xs.length ≤ 9223372036854775807) : Kd.C (Kd.int k) (W.alloc (.cells (nums k xs).toArray e)) (some ⟨W.heap.size, 0, none⟩) xs.length xs :=
  Kd.C_of_reads (own_reads' (own_lit W 0 e k xs (Nat.zero_le _) hm))
theorem step_lit {W W6 : World} {o : Obj} (hb : Below (W.alloc o).heap.size (W.alloc o) W6) : Below W.heap.size W W6 := (below_alloc (Below.refl _ W) o).trans (hb.mono (by simp))
theorem d_of_calls (A0 : Option Addr) (c0 : Nat) (w1 : World) (h : Kd.C (Kd.int .u8) w1 A0 [0, 1, 1, 0].length [0, 1, 1, 0]) (hc : 4 ≤ c0) :
    Calls Tryd.prog 21 #[.agg #[.int .i64 2, .int .i64 2, .slice A0 4 c0]] w1 fun e w' => (∃ A c, e = .returned (.tuple #[.agg #[.int .i64 2, .int .i64 2, .slice A 5 c, .int .i64 4], .int .i64 0]) ∧ 5 ≤ c ∧ Kd.C k49 w' A dl.length dl) ∧ Below w1.heap.size w1 w' := by
  have h_ := law_of_calls 2 2 A0 c0 [0, 1, 1, 0] w1 h hc (by decide) (by decide)
  rw [d_of] at h_
  refine h_.mono ?_
  rintro e w' ⟨⟨nv, rfl, hr⟩, hb⟩
  obtain ⟨A, c, rfl, hc, hC⟩ := Kd.R_reads hr
  exact ⟨⟨A, c, rfl, hc, hC⟩, hb⟩
theorem d_at_calls (A : Option Addr) (c : Nat) (W : World) (h : Kd.C k49 W A dl.length dl) (hc : 5 ≤ c) (A1 : Option Addr) (h1 : Kd.C (Kd.int .u8) W A1 [1, 0].length [1, 0]) :
    Calls Tryd.prog 24 #[.agg #[.int .i64 2, .int .i64 2, .slice A 5 c, .int .i64 4], .slice A1 2 2] W fun e w' => e = .returned (.tuple #[.int .u8 1, .int .i64 0]) ∧ Below W.heap.size W w' :=
  tree_At.calls 50 2 2 A c dl 4 A1 2 [1, 0] 1 0 W h hc h1 (by decide) d_at
theorem d_keeps_calls (A : Option Addr) (c : Nat) (W : World) (h : Kd.C k49 W A dl.length dl) (hc : 5 ≤ c) (A1 : Option Addr) (h1 : Kd.C (Kd.int .i64) W A1 [1, 0].length [1, 0]) :
    Calls Tryd.prog 40 #[.agg #[.int .i64 2, .int .i64 2, .slice A 5 c, .int .i64 4], .slice A1 2 2] W fun e w' => e = .returned (.tuple #[.bool true, .int .i64 0]) ∧ Below W.heap.size W w' :=
  tree_Keeps.calls 50 2 2 A c dl 4 A1 2 [1, 0] true 0 W h hc h1 (by decide) d_keeps
theorem d_print_calls (A : Option Addr) (c : Nat) (W : World) (hp : Pow W) (h : Kd.C k49 W A dl.length dl) (hc : 5 ≤ c) :
    Calls Tryd.prog 17 #[.agg #[.int .i64 2, .int .i64 2, .slice A 5 c, .int .i64 4]] W fun e w' => e = .returned (.tuple #[.string ⟨#[116, 114, 101, 101, 32, 50, 32, 50, 32, 53, 32, 52, 10, 61, 32, 48, 10, 61, 32, 49, 10, 48, 32, 49, 10, 49, 32, 48, 10, 50, 32, 51, 10]⟩, .int .i64 0]) ∧ Below W.heap.size W w' := by
  have h_ := print_ok 50 2 2 A c dl 4 W hp h hc d_check (chk_zero d_chk) d_bytes
  rw [d_text] at h_
  exact h_
set_option maxHeartbeats 8000000 in
set_option maxRecDepth 100000 in
theorem alive_calls (w : World) (hp : Pow w) : Calls Tryd.prog 16 #[] w fun e w' => e = .returned (.bool true) ∧ Below w.heap.size w w' := by
  have hu := Tryd.underlying24
  have HB := Aside0.mk (Below.refl w.heap.size w)
  have HP := Aside0.mk hp
  clear hp
  go_enter Tryd.func16, Tryd.ntmps16
  go_wp2_with (first
    | (go_at_call 50; (with_reducible refine (vivariumlaw11_differ.calls 2 2 [0, 1, 1, 0] _ rfl).mono ?_); rintro e_ w1 ⟨v2_, rfl, hr_, hb_⟩; obtain ⟨A0, c0, rfl, hc0, hC0⟩ := Kd.R_reads hr_; have HC0 := Aside0.mk hC0; have HL0 := Aside0.mk (show 4 ≤ c0 from hc0); have HB1 := Aside0.mk (HB.out.trans (hb_.mono HB.out.size)); clear hr_ hb_ hc0 hC0 HB; have HB := HB1; clear HB1)
    | (go_at_call 21; (with_reducible refine (d_of_calls A0 c0 _ HC0.out HL0.out).mono ?_); rintro e_ w2 ⟨⟨A, c, rfl, hc, hC⟩, hb_⟩; have HC := Aside0.mk hC; have HL := Aside0.mk (show 5 ≤ c from hc); have HB1 := Aside0.mk (HB.out.trans (hb_.mono HB.out.size)); clear hb_ hc hC HB HC0 HL0; have HB := HB1; clear HB1)
    | ((with_reducible refine gate_dst (N := 1) rfl ?_); refine box_event ?hg (N := 1) ?hd (cs := #[.int .i64 0, .int .i64 0, .slice none 0 0, .int .i64 0]) (t := 24) ?hr ?_; (case hd => rfl); (case hg => rfl); (case hr => first | (go_simp; done) | (go_simp; rfl)); intro g9 hg9 W8 hbox hb; have NB := Aside0.mk hbox; have hb9 := Aside0.mk hb; obtain ⟨y0_, y1_, y2_, y3_⟩ := four hbox; have z0_ := blk_frozen hbox 0; have z1_ := blk_frozen hbox 1; have z2_ := blk_frozen hbox 2; have z3_ := blk_frozen hbox 3; have GE := Aside0.mk hg9; clear hbox hb hg9)
    | ((with_reducible refine gate_store (t := 24) (p := 1) rfl ?_); refine store_event (t := 24) (p := 1) (v := ?vo_) (w1 := (((W8.setCell ⟨g9, 0, none⟩ (.int .i64 2)).setCell ⟨g9, 1, none⟩ (.int .i64 2)).setCell ⟨g9, 2, none⟩ (.slice A 5 c)).setCell ⟨g9, 3, none⟩ (.int .i64 4)) ?hgs ?hos ?hns ?hrs ?_; (case hos => rfl); (case hgs => rfl); (case hns => rfl); (case hrs => first | (go_simp; done) | (go_simp; rfl)); rintro W7 rfl; have hb_ : Below w2.heap.size w2 ((((W8.setCell ⟨g9, 0, none⟩ (.int .i64 2)).setCell ⟨g9, 1, none⟩ (.int .i64 2)).setCell ⟨g9, 2, none⟩ (.slice A 5 c)).setCell ⟨g9, 3, none⟩ (.int .i64 4)) := below_set (below_set (below_set (below_set hb9.out (Nat.le_of_eq GE.out.symm)) (Nat.le_of_eq GE.out.symm)) (Nat.le_of_eq GE.out.symm)) (Nat.le_of_eq GE.out.symm); have nb_ := blk_put (blk_put (blk_put (blk_put NB.out 0 (.int .i64 2) rfl) 1 (.int .i64 2) rfl) 2 (.slice A 5 c) rfl) 3 (.int .i64 4) rfl; have HB1 := Aside0.mk (HB.out.trans (hb_.mono HB.out.size)); have HC1 := Aside0.mk (Kd.C_below HC.out hb_); clear y0_ y1_ y2_ y3_ z0_ z1_ z2_ z3_ HB HC NB hb9 GE hb_; generalize (((W8.setCell ⟨g9, 0, none⟩ (.int .i64 2)).setCell ⟨g9, 1, none⟩ (.int .i64 2)).setCell ⟨g9, 2, none⟩ (.slice A 5 c)).setCell ⟨g9, 3, none⟩ (.int .i64 4) = W7 at *; have HB := HB1; have HC := HC1; have NB := Aside0.mk nb_; obtain ⟨y0_, y1_, y2_, y3_⟩ := four nb_; clear HB1 HC1 nb_)
    | (go_at_call 24; (with_reducible refine (d_at_calls A c _ (Kd.C_below HC.out (below_alloc (Below.refl _ _) _)) HL.out _ (lit_c (e := 5) .u8 [1, 0] (by decide))).mono ?_); rintro e_ W6 ⟨rfl, hb_⟩; have hb2_ := step_lit hb_; have HB1 := Aside0.mk (HB.out.trans (hb2_.mono HB.out.size)); have HC1 := Aside0.mk (Kd.C_below HC.out hb2_); have NB1 := Aside0.mk (blk_below NB.out hb2_); clear HB HC NB y0_ y1_ y2_ y3_ hb_ hb2_; have HB := HB1; have HC := HC1; have NB := NB1; obtain ⟨y0_, y1_, y2_, y3_⟩ := four NB.out; clear HB1 HC1 NB1)
    | (go_at_call 17; (with_reducible refine (d_print_calls A c _ (HP.out.on HB.out) HC.out HL.out).mono ?_); rintro e_ W5 ⟨rfl, hb_⟩; have HB1 := Aside0.mk (HB.out.trans (hb_.mono HB.out.size)); have HC1 := Aside0.mk (Kd.C_below HC.out hb_); have NB1 := Aside0.mk (blk_below NB.out hb_); clear HB HC NB y0_ y1_ y2_ y3_ hb_; have HB := HB1; have HC := HC1; have NB := NB1; obtain ⟨y0_, y1_, y2_, y3_⟩ := four NB.out; clear HB1 HC1 NB1)
    | (go_at_call 40; (with_reducible refine (d_keeps_calls A c _ (Kd.C_below HC.out (below_alloc (Below.refl _ _) _)) HL.out _ (lit_c (e := 3) .i64 [1, 0] (by decide))).mono ?_); rintro e_ W4 ⟨rfl, hb_⟩; have hb2_ := step_lit hb_; have HB1 := Aside0.mk (HB.out.trans (hb2_.mono HB.out.size)); have HC1 := Aside0.mk (Kd.C_below HC.out hb2_); have NB1 := Aside0.mk (blk_below NB.out hb2_); clear HB HC NB y0_ y1_ y2_ y3_ hb_ hb2_; have HB := HB1; have HC := HC1; have NB := NB1; obtain ⟨y0_, y1_, y2_, y3_⟩ := four NB.out; clear HB1 HC1 NB1))
  go_ret
  exact ⟨rfl, HB.out⟩
end Go.Proofs.YtbnonnogkgbpiaaDoor.AliveT
end
