-- Printed out of the translation by the kit print (pr.sh). Not trusted: checked by Lean.
import Derived.Test.YtmcidodpnhkdfaaDoorPRx0
import Derived.Test.YtmcidodpnhkdfaaDoorPRx2
import Derived.Test.YtmcidodpnhkdfaaDoorPRx3
namespace Go.Proofs.YtmcidodpnhkdfaaDoor.PR
open Go.RowKit Go.Proofs.YtmcidodpnhkdfaaDoorW.PrintWords Go.Proofs.YtmcidodpnhkdfaaDoorW.PrintLast Go.Proofs.YtmcidodpnhkdfaaDoorW.PrintMore
attribute [local go_sem] max2_int min2_int max_two min_two max_three min_three max_four min_four   -- for this text's walks alone
set_option linter.unusedVariables false
set_option linter.unusedSimpArgs false

/-! ### vivariumref04_Print: function 11 -/
def vivariumref04_Print.j0 : Nat → ByteArray → Bool → Int → Int → Int → Int → Int → Option (ByteArray × Int)
  | 0, _, _, _, _, _, _, _ => none
  | k + 1, x6, x26, x115000, x115001, x115002, x115003, x115004 => if x26 = true then (some (x6, 0)) else (if x115000 = 5 then ((vivariumref01_Text.f k x115001).bind fun t116 => (if x6.size + t116.size ≤ 9223372036854775807 then (some (x6 ++ t116, 0)) else (none))) else ((vivariumref01_Text.f k x115001).bind fun t117 => (if x6.size + t117.size ≤ 9223372036854775807 then ((vivariumref04_tail.f k x115000 x115001 x115002 x115003 x115004 1).bind fun t118 => (if (x6 ++ t117).size + t118.size ≤ 9223372036854775807 then (if ((x6 ++ t117) ++ t118).size + 1 ≤ 9223372036854775807 then ((vivariumref01_Text.f k x115002).bind fun t119 => (if (((x6 ++ t117) ++ t118) ++ (⟨#[44]⟩ : ByteArray)).size + t119.size ≤ 9223372036854775807 then ((vivariumref04_tail.f k x115000 x115001 x115002 x115003 x115004 2).bind fun t120 => (if ((((x6 ++ t117) ++ t118) ++ (⟨#[44]⟩ : ByteArray)) ++ t119).size + t120.size ≤ 9223372036854775807 then (some (((((x6 ++ t117) ++ t118) ++ (⟨#[44]⟩ : ByteArray)) ++ t119) ++ t120, 0)) else (none))) else (none))) else (none)) else (none))) else (none))))
def vivariumref04_Print.f (k : Nat) (a0_0 : Int) (a0_1 : Int) (a0_2 : Int) (a0_3 : Int) (a0_4 : Int) : Option (ByteArray × Int) := (vivariumref04_Check.f k a0_0 a0_1 a0_2 a0_3 a0_4).bind fun t115 => (if t115 = 0 then (if 0 ≤ ((a0_0 - 1) % 256) then (if ((a0_0 - 1) % 256) ≤ a0_0 then (if a0_0 ≤ 5 then (if a0_1 = 0 then (vivariumref04_Print.j0 k ((⟨#[80, 84, 75, 67, 83]⟩ : ByteArray).extract (((a0_0 - 1) % 256) : Int).toNat (a0_0 : Int).toNat) (a0_2 == 0) a0_0 a0_1 a0_2 a0_3 a0_4) else (vivariumref04_Print.j0 k ((⟨#[80, 84, 75, 67, 83]⟩ : ByteArray).extract (((a0_0 - 1) % 256) : Int).toNat (a0_0 : Int).toNat) false a0_0 a0_1 a0_2 a0_3 a0_4)) else (none)) else (none)) else (none)) else (some ((⟨#[]⟩ : ByteArray), t115)))
theorem vivariumref04_Print.mono_l : ∀ k, (∀ y0 y1 y2 y3 y4 y5 y6, LeO (vivariumref04_Print.j0 k y0 y1 y2 y3 y4 y5 y6) (vivariumref04_Print.j0 (k + 1) y0 y1 y2 y3 y4 y5 y6))
  | 0 => fun _ _ _ _ _ _ _ r h => by simp [vivariumref04_Print.j0] at h
  | k + 1 => by
    have ih0 := vivariumref04_Print.mono_l k
    · intro y0 y1 y2 y3 y4 y5 y6
      unfold vivariumref04_Print.j0
      repeat' first
      | (with_reducible exact ih0 _ _ _ _ _ _ _)
      | (with_reducible exact vivariumref01_Text.mono _ _)
      | (with_reducible exact vivariumref04_Check.mono _ _ _ _ _ _)
      | (with_reducible exact vivariumref04_tail.mono _ _ _ _ _ _ _)
      | (with_reducible exact LeO.refl _)
      | (with_reducible exact LeO.none _)
      | (with_reducible refine LeO.ite ?_ ?_)
      | (with_reducible refine LeO.bind ?_ (fun _ => ?_))
      | exact ih0 _ _ _ _ _ _ _
      | exact vivariumref01_Text.mono _ _
      | exact vivariumref04_Check.mono _ _ _ _ _ _
      | exact vivariumref04_tail.mono _ _ _ _ _ _ _
      | exact LeO.none _
      | refine LeO.ite ?_ ?_
      | refine LeO.bind ?_ (fun _ => ?_)
theorem vivariumref04_Print.mono : ∀ a0 a1 a2 a3 a4 k, LeO (vivariumref04_Print.f k a0 a1 a2 a3 a4) (vivariumref04_Print.f (k + 1) a0 a1 a2 a3 a4) := by
  intro a0 a1 a2 a3 a4 k
  have ih0 := vivariumref04_Print.mono_l k
  unfold vivariumref04_Print.f
  repeat' first
      | (with_reducible exact ih0 _ _ _ _ _ _ _)
      | (with_reducible exact vivariumref01_Text.mono _ _)
      | (with_reducible exact vivariumref04_Check.mono _ _ _ _ _ _)
      | (with_reducible exact vivariumref04_tail.mono _ _ _ _ _ _ _)
      | (with_reducible exact LeO.refl _)
      | (with_reducible exact LeO.none _)
      | (with_reducible refine LeO.ite ?_ ?_)
      | (with_reducible refine LeO.bind ?_ (fun _ => ?_))
      | exact ih0 _ _ _ _ _ _ _
      | exact vivariumref01_Text.mono _ _
      | exact vivariumref04_Check.mono _ _ _ _ _ _
      | exact vivariumref04_tail.mono _ _ _ _ _ _ _
      | exact LeO.none _
      | refine LeO.ite ?_ ?_
      | refine LeO.bind ?_ (fun _ => ?_)
def vivariumref04_Print.T10 : Bool × List (List Nat × List Nat) := (true, [([], []), ([], []), ([1], [1]), ([2], [2]), ([0, 3], [0, 3]), ([], []), ([5, 3], [5]), ([4, 6], [4, 6]), ([7], [7]), ([], []), ([9], [9]), ([10, 6], [10]), ([8, 11], [8, 11]), ([], []), ([13, 11], [13]), ([12, 14], [12, 14]), ([15, 14, 0, 1, 2, 3, 4, 5, 6, 7, 8, 9, 10, 11, 12, 13, 14, 15], [15]), ([16, 0, 1, 2, 3, 4, 5, 6, 7, 8, 9, 10, 11, 12, 13, 14, 15, 16], [])])
def vivariumref04_Print.B10 : List Nat := [0, 0, 2, 6, 15, 0, 46, 127, 255, 0, 512, 1646, 4095, 0, 11886, 32767, 65535, 131071]
theorem vivariumref04_Print.tab10 : rtab .any (opsOf Tryd.f11 10) = vivariumref04_Print.T10 := by kernel_rfl
theorem vivariumref04_Print.bits10 : waitsOk vivariumref04_Print.T10.2 vivariumref04_Print.B10 = true := by kernel_rfl
set_option maxHeartbeats 8000000 in
set_option maxRecDepth 100000 in
theorem vivariumref04_Print.calls (k : Nat) (a0_0 : Int) (a0_1 : Int) (a0_2 : Int) (a0_3 : Int) (a0_4 : Int) (r1 : ByteArray) (r2 : Int) (w : World) (h : vivariumref04_Print.f k a0_0 a0_1 a0_2 a0_3 a0_4 = some (r1, r2)) :
    Calls Tryd.prog 11 #[.agg #[.int .u8 a0_0, .int .i64 a0_1, .int .i64 a0_2, .int .u8 a0_3, .int .i64 a0_4]] w fun e w' => e = .returned (.tuple #[.string r1, .int .i64 r2]) ∧ Below w.heap.size w w' := by
  have hu23 := Tryd.underlying23
  have HB := Aside0.mk (Below.refl w.heap.size w)
  have H : ((vivariumref04_Check.f k a0_0 a0_1 a0_2 a0_3 a0_4).bind fun t115 => (if t115 = 0 then (if 0 ≤ ((a0_0 - 1) % 256) then (if ((a0_0 - 1) % 256) ≤ a0_0 then (if a0_0 ≤ 5 then (if a0_1 = 0 then (vivariumref04_Print.j0 k ((⟨#[80, 84, 75, 67, 83]⟩ : ByteArray).extract (((a0_0 - 1) % 256) : Int).toNat (a0_0 : Int).toNat) (a0_2 == 0) a0_0 a0_1 a0_2 a0_3 a0_4) else (vivariumref04_Print.j0 k ((⟨#[80, 84, 75, 67, 83]⟩ : ByteArray).extract (((a0_0 - 1) % 256) : Int).toNat (a0_0 : Int).toNat) false a0_0 a0_1 a0_2 a0_3 a0_4)) else (none)) else (none)) else (none)) else (some ((⟨#[]⟩ : ByteArray), t115)))) = some (r1, r2) := h
  clear h
  replace H := Option.bind_eq_some_iff.mp H
  obtain ⟨t115, A20, H⟩ := H
  replace H : (if t115 = 0 then (if 0 ≤ ((a0_0 - 1) % 256) then (if ((a0_0 - 1) % 256) ≤ a0_0 then (if a0_0 ≤ 5 then (if a0_1 = 0 then (vivariumref04_Print.j0 k ((⟨#[80, 84, 75, 67, 83]⟩ : ByteArray).extract (((a0_0 - 1) % 256) : Int).toNat (a0_0 : Int).toNat) (a0_2 == 0) a0_0 a0_1 a0_2 a0_3 a0_4) else (vivariumref04_Print.j0 k ((⟨#[80, 84, 75, 67, 83]⟩ : ByteArray).extract (((a0_0 - 1) % 256) : Int).toNat (a0_0 : Int).toNat) false a0_0 a0_1 a0_2 a0_3 a0_4)) else (none)) else (none)) else (none)) else (some ((⟨#[]⟩ : ByteArray), t115))) = some (r1, r2) := H
  have A2 := Aside0.mk A20
  clear A20
  by_cases c3 : t115 = 0
  · rw [if_pos c3] at H
    have c3b0 : (t115 == 0) = true := beq_iff_eq.mpr c3
    have c3b1 : (t115 != 0) = false := bne_eq_false_iff_eq.mpr c3
    clear c3
    obtain ⟨ji4, hji4⟩ : ∃ j_ : Int, ((a0_0 - 1) % 256) = j_ := ⟨_, rfl⟩
    replace H : (if 0 ≤ (ji4) then (if (ji4) ≤ a0_0 then (if a0_0 ≤ 5 then (if a0_1 = 0 then (vivariumref04_Print.j0 k ((⟨#[80, 84, 75, 67, 83]⟩ : ByteArray).extract ((ji4) : Int).toNat (a0_0 : Int).toNat) (a0_2 == 0) a0_0 a0_1 a0_2 a0_3 a0_4) else (vivariumref04_Print.j0 k ((⟨#[80, 84, 75, 67, 83]⟩ : ByteArray).extract ((ji4) : Int).toNat (a0_0 : Int).toNat) false a0_0 a0_1 a0_2 a0_3 a0_4)) else (none)) else (none)) else (none)) = some (r1, r2) := by first | (rw [hji4] at H; exact H) | (simp only [hji4] at H ⊢; exact H)
    (try rw [hji4] at A2)
    by_cases c5 : 0 ≤ (ji4)
    · rw [if_pos c5] at H
      have c5b0 := eq_true c5
      have c5b1 : decide (0 ≤ (ji4)) = true := decide_eq_true c5
      clear c5
      by_cases c6 : (ji4) ≤ a0_0
      · rw [if_pos c6] at H
        have c6b0 := eq_true c6
        have c6b1 : decide ((ji4) ≤ a0_0) = true := decide_eq_true c6
        clear c6
        by_cases c7 : a0_0 ≤ 5
        · rw [if_pos c7] at H
          have c7b0 := eq_true c7
          have c7b1 : decide (a0_0 ≤ 5) = true := decide_eq_true c7
          clear c7
          have HC8 := Aside0.mk H
          clear H
          go_enter Tryd.func11, Tryd.ntmps11
          go_upto_region 6 with (first | ((with_reducible refine gate_dst (N := 1) rfl ?_); refine box_event ?hg (N := 1) ?hd (cs := #[.int .u8 a0_0, .int .i64 a0_1, .int .i64 a0_2, .int .u8 a0_3, .int .i64 a0_4]) (t := 23) ?hr ?_; (case hd => rfl); (case hg => rfl); (case hr => first | (go_simp; done) | (go_simp; rfl)); intro gb114 hg w9 hbox hb; have n0_ := Aside0.mk (below_step (by repeat (first | (with_reducible first | exact HB.out | apply below_alloc | apply pw_below_drewN | apply below_drew1) | exact HB.out)) hb); have n1_ := Aside0.mk (hbox); have n2_ := Aside0.mk ((by rw [hg]; exact (below_size (by repeat (first | (with_reducible first | exact HB.out | apply below_alloc | apply pw_below_drewN | apply below_drew1) | exact HB.out))) : w.heap.size ≤ gb114)); have n3_ := Aside0.mk ((by rw [hg]; exact (below_size (by repeat (first | (with_reducible first | exact HB.out | apply below_alloc | apply pw_below_drewN | apply below_drew1) | exact HB.out))) : w.heap.size ≤ gb114)); clear HB; have HB := n0_; have BK114 := n1_; have GW114 := n2_; have GE114 := n3_; clear n0_ n1_ n2_ n3_; clear hb hbox hg; have hcz10_0 : w9.cell? ⟨gb114, 0, none⟩ = some (.int .u8 a0_0) := (blk_cell BK114.out 0).trans rfl; have hcz10_1 : w9.cell? ⟨gb114, 1, none⟩ = some (.int .i64 a0_1) := (blk_cell BK114.out 1).trans rfl; have hcz10_2 : w9.cell? ⟨gb114, 2, none⟩ = some (.int .i64 a0_2) := (blk_cell BK114.out 2).trans rfl; have hcz10_3 : w9.cell? ⟨gb114, 3, none⟩ = some (.int .u8 a0_3) := (blk_cell BK114.out 3).trans rfl; have hcz10_4 : w9.cell? ⟨gb114, 4, none⟩ = some (.int .i64 a0_4) := (blk_cell BK114.out 4).trans rfl; have hfz10_0 := blk_frozen BK114.out 0; have hfz10_1 := blk_frozen BK114.out 1; have hfz10_2 := blk_frozen BK114.out 2; have hfz10_3 := blk_frozen BK114.out 3; have hfz10_4 := blk_frozen BK114.out 4) | ((with_reducible refine gate_callee (f := 13) rfl ?_); refine goesL_ (some 8) rfl rfl Tryd.func13 (by kernel_rfl) rfl #[.agg #[.int .u8 a0_0, .int .i64 a0_1, .int .i64 a0_2, .int .u8 a0_3, .int .i64 a0_4]] rfl (by (try simp only [List.map_toArray, List.map_cons, List.map_nil]); first | done | rfl | (simp only [List.length_drop, List.length_take]; rfl)) ?_; (with_reducible refine (vivariumref04_Check.calls k a0_0 a0_1 a0_2 a0_3 a0_4 t115 _ A2.out).mono ?_); rintro e w11 ⟨rfl, hb⟩; refine ⟨_, rfl, ?_⟩; have n0_ := Aside0.mk (blk_below (g := gb114) (o := .cells #[.int .u8 a0_0, .int .i64 a0_1, .int .i64 a0_2, .int .u8 a0_3, .int .i64 a0_4] 23 (0, 0)) (by (with_reducible repeat (first | refine blk_drewN ?_ _ | refine blk_drew ?_ | refine blk_alloc ?_ _)); exact BK114.out) hb); have n1_ := Aside0.mk (below_step (by repeat (first | (with_reducible first | exact HB.out | apply below_alloc | apply pw_below_drewN | apply below_drew1 | refine below_set ?_ GE114.out) | exact HB.out)) hb); clear BK114; clear HB; have BK114 := n0_; have HB := n1_; clear n0_ n1_; (try clear hb); (try clear hb2); (try clear hk); (try clear hi); have hcz12_0 : w11.cell? ⟨gb114, 0, none⟩ = some (.int .u8 a0_0) := (blk_cell BK114.out 0).trans rfl; have hcz12_1 : w11.cell? ⟨gb114, 1, none⟩ = some (.int .i64 a0_1) := (blk_cell BK114.out 1).trans rfl; have hcz12_2 : w11.cell? ⟨gb114, 2, none⟩ = some (.int .i64 a0_2) := (blk_cell BK114.out 2).trans rfl; have hcz12_3 : w11.cell? ⟨gb114, 3, none⟩ = some (.int .u8 a0_3) := (blk_cell BK114.out 3).trans rfl; have hcz12_4 : w11.cell? ⟨gb114, 4, none⟩ = some (.int .i64 a0_4) := (blk_cell BK114.out 4).trans rfl; have hfz12_0 := blk_frozen BK114.out 0; have hfz12_1 := blk_frozen BK114.out 1; have hfz12_2 := blk_frozen BK114.out 2; have hfz12_3 := blk_frozen BK114.out 3; have hfz12_4 := blk_frozen BK114.out 4))
          (try simp only [Act.put, List.setIfInBounds_toArray, List.set_cons_zero, List.set_cons_succ])
          go_cut [26] (fun v26 wc => ∃ (kq : Nat) (x26_7 : Bool), v26 = .bool x26_7 ∧ Aside0 (vivariumref04_Print.j0 kq ((⟨#[80, 84, 75, 67, 83]⟩ : ByteArray).extract ((ji4) : Int).toNat (a0_0 : Int).toNat) x26_7 a0_0 a0_1 a0_2 a0_3 a0_4 = some (r1, r2)) ∧ Aside0 (kq ≤ k) ∧ Aside0 (wc.heap[gb114]? = some (.cells #[.int .u8 a0_0, .int .i64 a0_1, .int .i64 a0_2, .int .u8 a0_3, .int .i64 a0_4] 23 (0, 0))) ∧ Aside0 (Below w.heap.size w wc))
          case first =>
            have H := HC8.out
            clear HC8
            by_cases c13 : a0_1 = 0
            · rw [if_pos c13] at H
              have c13b0 : (a0_1 == 0) = true := beq_iff_eq.mpr c13
              have c13b1 : (a0_1 != 0) = false := bne_eq_false_iff_eq.mpr c13
              clear c13
              (first | rw [c13b0] | (simp only [i64_w, i32_w]; rw [c13b0]) | skip)
              have H' := Aside0.mk H
              clear H
              have hcz14_0 : w11.cell? ⟨gb114, 0, none⟩ = some (.int .u8 a0_0) := (blk_cell BK114.out 0).trans rfl
              have hcz14_1 : w11.cell? ⟨gb114, 1, none⟩ = some (.int .i64 a0_1) := (blk_cell BK114.out 1).trans rfl
              have hcz14_2 : w11.cell? ⟨gb114, 2, none⟩ = some (.int .i64 a0_2) := (blk_cell BK114.out 2).trans rfl
              have hcz14_3 : w11.cell? ⟨gb114, 3, none⟩ = some (.int .u8 a0_3) := (blk_cell BK114.out 3).trans rfl
              have hcz14_4 : w11.cell? ⟨gb114, 4, none⟩ = some (.int .i64 a0_4) := (blk_cell BK114.out 4).trans rfl
              have hfz14_0 := blk_frozen BK114.out 0
              have hfz14_1 := blk_frozen BK114.out 1
              have hfz14_2 := blk_frozen BK114.out 2
              have hfz14_3 := blk_frozen BK114.out 3
              have hfz14_4 := blk_frozen BK114.out 4
              go_wp2
              go_meet
              case rel => exact ⟨_, ((a0_2 == 0)), (by first | rfl | (simp; done) | (simp [*]; done) | (simp [wrap64]; done)), H', ⟨by first | omega | exact Nat.le_refl _⟩, ⟨by (with_reducible repeat (first | refine blk_drewN ?_ _ | refine blk_drew ?_ | refine blk_alloc ?_ _)); exact BK114.out⟩, ⟨by repeat (first | (with_reducible first | exact HB.out | apply below_alloc | apply pw_below_drewN | apply below_drew1 | refine below_set ?_ GE114.out) | exact HB.out)⟩⟩
            · rw [if_neg c13] at H
              have c13b0 : (a0_1 == 0) = false := beq_eq_false_iff_ne.mpr c13
              have c13b1 : (a0_1 != 0) = true := bne_iff_ne.mpr c13
              (first | rw [c13b0] | (simp only [i64_w, i32_w]; rw [c13b0]) | skip)
              have H' := Aside0.mk H
              clear H
              have hcz15_0 : w11.cell? ⟨gb114, 0, none⟩ = some (.int .u8 a0_0) := (blk_cell BK114.out 0).trans rfl
              have hcz15_1 : w11.cell? ⟨gb114, 1, none⟩ = some (.int .i64 a0_1) := (blk_cell BK114.out 1).trans rfl
              have hcz15_2 : w11.cell? ⟨gb114, 2, none⟩ = some (.int .i64 a0_2) := (blk_cell BK114.out 2).trans rfl
              have hcz15_3 : w11.cell? ⟨gb114, 3, none⟩ = some (.int .u8 a0_3) := (blk_cell BK114.out 3).trans rfl
              have hcz15_4 : w11.cell? ⟨gb114, 4, none⟩ = some (.int .i64 a0_4) := (blk_cell BK114.out 4).trans rfl
              have hfz15_0 := blk_frozen BK114.out 0
              have hfz15_1 := blk_frozen BK114.out 1
              have hfz15_2 := blk_frozen BK114.out 2
              have hfz15_3 := blk_frozen BK114.out 3
              have hfz15_4 := blk_frozen BK114.out 4
              go_wp2
              go_meet
              case rel => exact ⟨_, (false), (by first | rfl | (simp; done) | (simp [*]; done) | (simp [wrap64]; done)), H', ⟨by first | omega | exact Nat.le_refl _⟩, ⟨by (with_reducible repeat (first | refine blk_drewN ?_ _ | refine blk_drew ?_ | refine blk_alloc ?_ _)); exact BK114.out⟩, ⟨by repeat (first | (with_reducible first | exact HB.out | apply below_alloc | apply pw_below_drewN | apply below_drew1 | refine below_set ?_ GE114.out) | exact HB.out)⟩⟩
          case rest =>
            clear HC8
            try clear c1
            try clear p2
            try clear c3
            try clear c3b0
            try clear c3b1
            try clear c5
            try clear c5b0
            try clear c5b1
            try clear c6
            try clear c6b0
            try clear c6b1
            try clear c7
            try clear c7b0
            try clear c7b1
            try clear c11
            try clear c13
            try clear c13b0
            try clear c13b1
            try clear hcz10_0
            try clear hcz10_1
            try clear hcz10_2
            try clear hcz10_3
            try clear hcz10_4
            try clear hcz12_0
            try clear hcz12_1
            try clear hcz12_2
            try clear hcz12_3
            try clear hcz12_4
            try clear hcz14_0
            try clear hcz14_1
            try clear hcz14_2
            try clear hcz14_3
            try clear hcz14_4
            try clear hcz15_0
            try clear hcz15_1
            try clear hcz15_2
            try clear hcz15_3
            try clear hcz15_4
            try clear hfz10_0
            try clear hfz10_1
            try clear hfz10_2
            try clear hfz10_3
            try clear hfz10_4
            try clear hfz12_0
            try clear hfz12_1
            try clear hfz12_2
            try clear hfz12_3
            try clear hfz12_4
            try clear hfz14_0
            try clear hfz14_1
            try clear hfz14_2
            try clear hfz14_3
            try clear hfz14_4
            try clear hfz15_0
            try clear hfz15_1
            try clear hfz15_2
            try clear hfz15_3
            try clear hfz15_4
            obtain ⟨kq, x26_7, rfl, HA, HJ7, BK114, HB⟩ := hcut
            cases kq with
            | zero => exact absurd HA.out (by simp [vivariumref04_Print.j0])
            | succ kj7 =>
              have H := HA.out
              clear HA
              simp only [vivariumref04_Print.j0] at H
              by_cases c16 : x26_7 = true
              · subst c16
                have H1 : (some (((⟨#[80, 84, 75, 67, 83]⟩ : ByteArray).extract ((ji4) : Int).toNat (a0_0 : Int).toNat), 0)) = some (r1, r2) := by rw [if_pos rfl] at H; exact H
                clear H
                have H := H1
                clear H1
                simp only [Option.some.injEq, Prod.mk.injEq] at H
                obtain ⟨rfl, rfl⟩ := H
                go_wp2
                go_ret2
                exact ⟨by first | rfl | (simp [errW_none, errW_some] <;> rfl) | (simp only [← hji4]; first | rfl | (simp [errW_none, errW_some] <;> rfl)) | (simp [*, errW_none, errW_some] <;> rfl), by repeat (first | (with_reducible first | exact HB.out | apply below_alloc | apply pw_below_drewN | apply below_drew1 | refine below_set ?_ GE114.out) | exact HB.out)⟩
              · replace c16 := Bool.eq_false_iff.mpr c16
                subst c16
                have H1 : (if a0_0 = 5 then ((vivariumref01_Text.f kj7 a0_1).bind fun t116 => (if ((⟨#[80, 84, 75, 67, 83]⟩ : ByteArray).extract ((ji4) : Int).toNat (a0_0 : Int).toNat).size + t116.size ≤ 9223372036854775807 then (some (((⟨#[80, 84, 75, 67, 83]⟩ : ByteArray).extract ((ji4) : Int).toNat (a0_0 : Int).toNat) ++ t116, 0)) else (none))) else ((vivariumref01_Text.f kj7 a0_1).bind fun t117 => (if ((⟨#[80, 84, 75, 67, 83]⟩ : ByteArray).extract ((ji4) : Int).toNat (a0_0 : Int).toNat).size + t117.size ≤ 9223372036854775807 then ((vivariumref04_tail.f kj7 a0_0 a0_1 a0_2 a0_3 a0_4 1).bind fun t118 => (if (((⟨#[80, 84, 75, 67, 83]⟩ : ByteArray).extract ((ji4) : Int).toNat (a0_0 : Int).toNat) ++ t117).size + t118.size ≤ 9223372036854775807 then (if ((((⟨#[80, 84, 75, 67, 83]⟩ : ByteArray).extract ((ji4) : Int).toNat (a0_0 : Int).toNat) ++ t117) ++ t118).size + 1 ≤ 9223372036854775807 then ((vivariumref01_Text.f kj7 a0_2).bind fun t119 => (if (((((⟨#[80, 84, 75, 67, 83]⟩ : ByteArray).extract ((ji4) : Int).toNat (a0_0 : Int).toNat) ++ t117) ++ t118) ++ (⟨#[44]⟩ : ByteArray)).size + t119.size ≤ 9223372036854775807 then ((vivariumref04_tail.f kj7 a0_0 a0_1 a0_2 a0_3 a0_4 2).bind fun t120 => (if ((((((⟨#[80, 84, 75, 67, 83]⟩ : ByteArray).extract ((ji4) : Int).toNat (a0_0 : Int).toNat) ++ t117) ++ t118) ++ (⟨#[44]⟩ : ByteArray)) ++ t119).size + t120.size ≤ 9223372036854775807 then (some (((((((⟨#[80, 84, 75, 67, 83]⟩ : ByteArray).extract ((ji4) : Int).toNat (a0_0 : Int).toNat) ++ t117) ++ t118) ++ (⟨#[44]⟩ : ByteArray)) ++ t119) ++ t120, 0)) else (none))) else (none))) else (none)) else (none))) else (none)))) = some (r1, r2) := by rw [if_neg (show ¬ (false = true) by decide)] at H; exact H
                clear H
                have H := H1
                clear H1
                by_cases c17 : a0_0 = 5
                · rw [if_pos c17] at H
                  have c17b0 : (a0_0 == 5) = true := beq_iff_eq.mpr c17
                  have c17b1 : (a0_0 != 5) = false := bne_eq_false_iff_eq.mpr c17
                  clear c17
                  replace H := Option.bind_eq_some_iff.mp H
                  obtain ⟨t116, A180, H⟩ := H
                  replace H : (if ((⟨#[80, 84, 75, 67, 83]⟩ : ByteArray).extract ((ji4) : Int).toNat (a0_0 : Int).toNat).size + t116.size ≤ 9223372036854775807 then (some (((⟨#[80, 84, 75, 67, 83]⟩ : ByteArray).extract ((ji4) : Int).toNat (a0_0 : Int).toNat) ++ t116, 0)) else (none)) = some (r1, r2) := H
                  have A18 := Aside0.mk A180
                  clear A180
                  by_cases c19 : ((⟨#[80, 84, 75, 67, 83]⟩ : ByteArray).extract ((ji4) : Int).toNat (a0_0 : Int).toNat).size + t116.size ≤ 9223372036854775807
                  · rw [if_pos c19] at H
                    have c19b0 := eq_true c19
                    have c19b1 : decide (((⟨#[80, 84, 75, 67, 83]⟩ : ByteArray).extract ((ji4) : Int).toNat (a0_0 : Int).toNat).size + t116.size ≤ 9223372036854775807) = true := decide_eq_true c19
                    try have c19b2 : (9223372036854775807 < ((⟨#[80, 84, 75, 67, 83]⟩ : ByteArray).extract ((ji4) : Int).toNat (a0_0 : Int).toNat).size + t116.size) = False := eq_false (Nat.not_lt.2 c19)
                    have c19x := c19
                    simp only [ByteArray.size_append, ByteArray.size_extract, show (ByteArray.mk #[80, 84, 75, 67, 83]).size = 5 from rfl, show (ByteArray.mk #[44]).size = 1 from rfl, show (ByteArray.mk #[43]).size = 1 from rfl] at c19x
                    have c19y := eq_false (Nat.not_lt.2 c19x)
                    have c19w := c19x
                    (try simp at c19w)
                    have c19v := eq_false (Nat.not_lt.2 c19w)
                    simp only [Option.some.injEq, Prod.mk.injEq] at H
                    obtain ⟨rfl, rfl⟩ := H
                    have hcz20_0 : wc.cell? ⟨gb114, 0, none⟩ = some (.int .u8 a0_0) := (blk_cell BK114.out 0).trans rfl
                    have hcz20_1 : wc.cell? ⟨gb114, 1, none⟩ = some (.int .i64 a0_1) := (blk_cell BK114.out 1).trans rfl
                    have hcz20_2 : wc.cell? ⟨gb114, 2, none⟩ = some (.int .i64 a0_2) := (blk_cell BK114.out 2).trans rfl
                    have hcz20_3 : wc.cell? ⟨gb114, 3, none⟩ = some (.int .u8 a0_3) := (blk_cell BK114.out 3).trans rfl
                    have hcz20_4 : wc.cell? ⟨gb114, 4, none⟩ = some (.int .i64 a0_4) := (blk_cell BK114.out 4).trans rfl
                    have hfz20_0 := blk_frozen BK114.out 0
                    have hfz20_1 := blk_frozen BK114.out 1
                    have hfz20_2 := blk_frozen BK114.out 2
                    have hfz20_3 := blk_frozen BK114.out 3
                    have hfz20_4 := blk_frozen BK114.out 4
                    go_wp2_with (first | ((with_reducible refine gate_callee (f := 27) rfl ?_); refine goesL_ (some 34) rfl rfl Tryd.func27 (by kernel_rfl) rfl #[.int .i64 a0_1] rfl (by (try simp only [List.map_toArray, List.map_cons, List.map_nil]); first | done | rfl | (simp only [List.length_drop, List.length_take]; rfl)) ?_; (with_reducible refine (vivariumref01_Text.calls kj7 a0_1 t116 _ A18.out).mono ?_); rintro e w21 ⟨rfl, hb⟩; refine ⟨_, rfl, ?_⟩; have n0_ := Aside0.mk (blk_below (g := gb114) (o := .cells #[.int .u8 a0_0, .int .i64 a0_1, .int .i64 a0_2, .int .u8 a0_3, .int .i64 a0_4] 23 (0, 0)) (by (with_reducible repeat (first | refine blk_drewN ?_ _ | refine blk_drew ?_ | refine blk_alloc ?_ _)); exact BK114.out) hb); have n1_ := Aside0.mk (below_step (by repeat (first | (with_reducible first | exact HB.out | apply below_alloc | apply pw_below_drewN | apply below_drew1 | refine below_set ?_ GE114.out) | exact HB.out)) hb); clear BK114; clear HB; have BK114 := n0_; have HB := n1_; clear n0_ n1_; (try clear hb); (try clear hb2); (try clear hk); (try clear hi)))
                    go_ret2
                    exact ⟨by first | rfl | (simp [errW_none, errW_some] <;> rfl) | (simp only [← hji4]; first | rfl | (simp [errW_none, errW_some] <;> rfl)) | (simp [*, errW_none, errW_some] <;> rfl), by repeat (first | (with_reducible first | exact HB.out | apply below_alloc | apply pw_below_drewN | apply below_drew1 | refine below_set ?_ GE114.out) | exact HB.out)⟩
                  · rw [if_neg c19] at H
                    exact absurd H (by simp)
                · rw [if_neg c17] at H
                  have c17b0 : (a0_0 == 5) = false := beq_eq_false_iff_ne.mpr c17
                  have c17b1 : (a0_0 != 5) = true := bne_iff_ne.mpr c17
                  replace H := Option.bind_eq_some_iff.mp H
                  obtain ⟨t117, A220, H⟩ := H
                  replace H : (if ((⟨#[80, 84, 75, 67, 83]⟩ : ByteArray).extract ((ji4) : Int).toNat (a0_0 : Int).toNat).size + t117.size ≤ 9223372036854775807 then ((vivariumref04_tail.f kj7 a0_0 a0_1 a0_2 a0_3 a0_4 1).bind fun t118 => (if (((⟨#[80, 84, 75, 67, 83]⟩ : ByteArray).extract ((ji4) : Int).toNat (a0_0 : Int).toNat) ++ t117).size + t118.size ≤ 9223372036854775807 then (if ((((⟨#[80, 84, 75, 67, 83]⟩ : ByteArray).extract ((ji4) : Int).toNat (a0_0 : Int).toNat) ++ t117) ++ t118).size + 1 ≤ 9223372036854775807 then ((vivariumref01_Text.f kj7 a0_2).bind fun t119 => (if (((((⟨#[80, 84, 75, 67, 83]⟩ : ByteArray).extract ((ji4) : Int).toNat (a0_0 : Int).toNat) ++ t117) ++ t118) ++ (⟨#[44]⟩ : ByteArray)).size + t119.size ≤ 9223372036854775807 then ((vivariumref04_tail.f kj7 a0_0 a0_1 a0_2 a0_3 a0_4 2).bind fun t120 => (if ((((((⟨#[80, 84, 75, 67, 83]⟩ : ByteArray).extract ((ji4) : Int).toNat (a0_0 : Int).toNat) ++ t117) ++ t118) ++ (⟨#[44]⟩ : ByteArray)) ++ t119).size + t120.size ≤ 9223372036854775807 then (some (((((((⟨#[80, 84, 75, 67, 83]⟩ : ByteArray).extract ((ji4) : Int).toNat (a0_0 : Int).toNat) ++ t117) ++ t118) ++ (⟨#[44]⟩ : ByteArray)) ++ t119) ++ t120, 0)) else (none))) else (none))) else (none)) else (none))) else (none)) = some (r1, r2) := H
                  have A22 := Aside0.mk A220
                  clear A220
                  by_cases c23 : ((⟨#[80, 84, 75, 67, 83]⟩ : ByteArray).extract ((ji4) : Int).toNat (a0_0 : Int).toNat).size + t117.size ≤ 9223372036854775807
                  · rw [if_pos c23] at H
                    have c23b0 := eq_true c23
                    have c23b1 : decide (((⟨#[80, 84, 75, 67, 83]⟩ : ByteArray).extract ((ji4) : Int).toNat (a0_0 : Int).toNat).size + t117.size ≤ 9223372036854775807) = true := decide_eq_true c23
                    try have c23b2 : (9223372036854775807 < ((⟨#[80, 84, 75, 67, 83]⟩ : ByteArray).extract ((ji4) : Int).toNat (a0_0 : Int).toNat).size + t117.size) = False := eq_false (Nat.not_lt.2 c23)
                    have c23x := c23
                    simp only [ByteArray.size_append, ByteArray.size_extract, show (ByteArray.mk #[80, 84, 75, 67, 83]).size = 5 from rfl, show (ByteArray.mk #[44]).size = 1 from rfl, show (ByteArray.mk #[43]).size = 1 from rfl] at c23x
                    have c23y := eq_false (Nat.not_lt.2 c23x)
                    have c23w := c23x
                    (try simp at c23w)
                    have c23v := eq_false (Nat.not_lt.2 c23w)
                    replace H := Option.bind_eq_some_iff.mp H
                    obtain ⟨t118, A240, H⟩ := H
                    replace H : (if (((⟨#[80, 84, 75, 67, 83]⟩ : ByteArray).extract ((ji4) : Int).toNat (a0_0 : Int).toNat) ++ t117).size + t118.size ≤ 9223372036854775807 then (if ((((⟨#[80, 84, 75, 67, 83]⟩ : ByteArray).extract ((ji4) : Int).toNat (a0_0 : Int).toNat) ++ t117) ++ t118).size + 1 ≤ 9223372036854775807 then ((vivariumref01_Text.f kj7 a0_2).bind fun t119 => (if (((((⟨#[80, 84, 75, 67, 83]⟩ : ByteArray).extract ((ji4) : Int).toNat (a0_0 : Int).toNat) ++ t117) ++ t118) ++ (⟨#[44]⟩ : ByteArray)).size + t119.size ≤ 9223372036854775807 then ((vivariumref04_tail.f kj7 a0_0 a0_1 a0_2 a0_3 a0_4 2).bind fun t120 => (if ((((((⟨#[80, 84, 75, 67, 83]⟩ : ByteArray).extract ((ji4) : Int).toNat (a0_0 : Int).toNat) ++ t117) ++ t118) ++ (⟨#[44]⟩ : ByteArray)) ++ t119).size + t120.size ≤ 9223372036854775807 then (some (((((((⟨#[80, 84, 75, 67, 83]⟩ : ByteArray).extract ((ji4) : Int).toNat (a0_0 : Int).toNat) ++ t117) ++ t118) ++ (⟨#[44]⟩ : ByteArray)) ++ t119) ++ t120, 0)) else (none))) else (none))) else (none)) else (none)) = some (r1, r2) := H
                    have A24 := Aside0.mk A240
                    clear A240
                    by_cases c25 : (((⟨#[80, 84, 75, 67, 83]⟩ : ByteArray).extract ((ji4) : Int).toNat (a0_0 : Int).toNat) ++ t117).size + t118.size ≤ 9223372036854775807
                    · rw [if_pos c25] at H
                      have c25b0 := eq_true c25
                      have c25b1 : decide ((((⟨#[80, 84, 75, 67, 83]⟩ : ByteArray).extract ((ji4) : Int).toNat (a0_0 : Int).toNat) ++ t117).size + t118.size ≤ 9223372036854775807) = true := decide_eq_true c25
                      try have c25b2 : (9223372036854775807 < (((⟨#[80, 84, 75, 67, 83]⟩ : ByteArray).extract ((ji4) : Int).toNat (a0_0 : Int).toNat) ++ t117).size + t118.size) = False := eq_false (Nat.not_lt.2 c25)
                      have c25x := c25
                      simp only [ByteArray.size_append, ByteArray.size_extract, show (ByteArray.mk #[80, 84, 75, 67, 83]).size = 5 from rfl, show (ByteArray.mk #[44]).size = 1 from rfl, show (ByteArray.mk #[43]).size = 1 from rfl] at c25x
                      have c25y := eq_false (Nat.not_lt.2 c25x)
                      have c25w := c25x
                      (try simp at c25w)
                      have c25v := eq_false (Nat.not_lt.2 c25w)
                      by_cases c26 : ((((⟨#[80, 84, 75, 67, 83]⟩ : ByteArray).extract ((ji4) : Int).toNat (a0_0 : Int).toNat) ++ t117) ++ t118).size + 1 ≤ 9223372036854775807
                      · rw [if_pos c26] at H
                        have c26b0 := eq_true c26
                        have c26b1 : decide (((((⟨#[80, 84, 75, 67, 83]⟩ : ByteArray).extract ((ji4) : Int).toNat (a0_0 : Int).toNat) ++ t117) ++ t118).size + 1 ≤ 9223372036854775807) = true := decide_eq_true c26
                        try have c26b2 : (9223372036854775807 < ((((⟨#[80, 84, 75, 67, 83]⟩ : ByteArray).extract ((ji4) : Int).toNat (a0_0 : Int).toNat) ++ t117) ++ t118).size + 1) = False := eq_false (Nat.not_lt.2 c26)
                        have c26x := c26
                        simp only [ByteArray.size_append, ByteArray.size_extract, show (ByteArray.mk #[80, 84, 75, 67, 83]).size = 5 from rfl, show (ByteArray.mk #[44]).size = 1 from rfl, show (ByteArray.mk #[43]).size = 1 from rfl] at c26x
                        have c26y := eq_false (Nat.not_lt.2 c26x)
                        have c26w := c26x
                        (try simp at c26w)
                        have c26v := eq_false (Nat.not_lt.2 c26w)
                        replace H := Option.bind_eq_some_iff.mp H
                        obtain ⟨t119, A270, H⟩ := H
                        replace H : (if (((((⟨#[80, 84, 75, 67, 83]⟩ : ByteArray).extract ((ji4) : Int).toNat (a0_0 : Int).toNat) ++ t117) ++ t118) ++ (⟨#[44]⟩ : ByteArray)).size + t119.size ≤ 9223372036854775807 then ((vivariumref04_tail.f kj7 a0_0 a0_1 a0_2 a0_3 a0_4 2).bind fun t120 => (if ((((((⟨#[80, 84, 75, 67, 83]⟩ : ByteArray).extract ((ji4) : Int).toNat (a0_0 : Int).toNat) ++ t117) ++ t118) ++ (⟨#[44]⟩ : ByteArray)) ++ t119).size + t120.size ≤ 9223372036854775807 then (some (((((((⟨#[80, 84, 75, 67, 83]⟩ : ByteArray).extract ((ji4) : Int).toNat (a0_0 : Int).toNat) ++ t117) ++ t118) ++ (⟨#[44]⟩ : ByteArray)) ++ t119) ++ t120, 0)) else (none))) else (none)) = some (r1, r2) := H
                        have A27 := Aside0.mk A270
                        clear A270
                        by_cases c28 : (((((⟨#[80, 84, 75, 67, 83]⟩ : ByteArray).extract ((ji4) : Int).toNat (a0_0 : Int).toNat) ++ t117) ++ t118) ++ (⟨#[44]⟩ : ByteArray)).size + t119.size ≤ 9223372036854775807
                        · rw [if_pos c28] at H
                          have c28b0 := eq_true c28
                          have c28b1 : decide ((((((⟨#[80, 84, 75, 67, 83]⟩ : ByteArray).extract ((ji4) : Int).toNat (a0_0 : Int).toNat) ++ t117) ++ t118) ++ (⟨#[44]⟩ : ByteArray)).size + t119.size ≤ 9223372036854775807) = true := decide_eq_true c28
                          try have c28b2 : (9223372036854775807 < (((((⟨#[80, 84, 75, 67, 83]⟩ : ByteArray).extract ((ji4) : Int).toNat (a0_0 : Int).toNat) ++ t117) ++ t118) ++ (⟨#[44]⟩ : ByteArray)).size + t119.size) = False := eq_false (Nat.not_lt.2 c28)
                          have c28x := c28
                          simp only [ByteArray.size_append, ByteArray.size_extract, show (ByteArray.mk #[80, 84, 75, 67, 83]).size = 5 from rfl, show (ByteArray.mk #[44]).size = 1 from rfl, show (ByteArray.mk #[43]).size = 1 from rfl] at c28x
                          have c28y := eq_false (Nat.not_lt.2 c28x)
                          have c28w := c28x
                          (try simp at c28w)
                          have c28v := eq_false (Nat.not_lt.2 c28w)
                          replace H := Option.bind_eq_some_iff.mp H
                          obtain ⟨t120, A290, H⟩ := H
                          replace H : (if ((((((⟨#[80, 84, 75, 67, 83]⟩ : ByteArray).extract ((ji4) : Int).toNat (a0_0 : Int).toNat) ++ t117) ++ t118) ++ (⟨#[44]⟩ : ByteArray)) ++ t119).size + t120.size ≤ 9223372036854775807 then (some (((((((⟨#[80, 84, 75, 67, 83]⟩ : ByteArray).extract ((ji4) : Int).toNat (a0_0 : Int).toNat) ++ t117) ++ t118) ++ (⟨#[44]⟩ : ByteArray)) ++ t119) ++ t120, 0)) else (none)) = some (r1, r2) := H
                          have A29 := Aside0.mk A290
                          clear A290
                          by_cases c30 : ((((((⟨#[80, 84, 75, 67, 83]⟩ : ByteArray).extract ((ji4) : Int).toNat (a0_0 : Int).toNat) ++ t117) ++ t118) ++ (⟨#[44]⟩ : ByteArray)) ++ t119).size + t120.size ≤ 9223372036854775807
                          · rw [if_pos c30] at H
                            have c30b0 := eq_true c30
                            have c30b1 : decide (((((((⟨#[80, 84, 75, 67, 83]⟩ : ByteArray).extract ((ji4) : Int).toNat (a0_0 : Int).toNat) ++ t117) ++ t118) ++ (⟨#[44]⟩ : ByteArray)) ++ t119).size + t120.size ≤ 9223372036854775807) = true := decide_eq_true c30
                            try have c30b2 : (9223372036854775807 < ((((((⟨#[80, 84, 75, 67, 83]⟩ : ByteArray).extract ((ji4) : Int).toNat (a0_0 : Int).toNat) ++ t117) ++ t118) ++ (⟨#[44]⟩ : ByteArray)) ++ t119).size + t120.size) = False := eq_false (Nat.not_lt.2 c30)
                            have c30x := c30
                            simp only [ByteArray.size_append, ByteArray.size_extract, show (ByteArray.mk #[80, 84, 75, 67, 83]).size = 5 from rfl, show (ByteArray.mk #[44]).size = 1 from rfl, show (ByteArray.mk #[43]).size = 1 from rfl] at c30x
                            have c30y := eq_false (Nat.not_lt.2 c30x)
                            have c30w := c30x
                            (try simp at c30w)
                            have c30v := eq_false (Nat.not_lt.2 c30w)
                            simp only [Option.some.injEq, Prod.mk.injEq] at H
                            obtain ⟨rfl, rfl⟩ := H
                            have hcz31_0 : wc.cell? ⟨gb114, 0, none⟩ = some (.int .u8 a0_0) := (blk_cell BK114.out 0).trans rfl
                            have hcz31_1 : wc.cell? ⟨gb114, 1, none⟩ = some (.int .i64 a0_1) := (blk_cell BK114.out 1).trans rfl
                            have hcz31_2 : wc.cell? ⟨gb114, 2, none⟩ = some (.int .i64 a0_2) := (blk_cell BK114.out 2).trans rfl
                            have hcz31_3 : wc.cell? ⟨gb114, 3, none⟩ = some (.int .u8 a0_3) := (blk_cell BK114.out 3).trans rfl
                            have hcz31_4 : wc.cell? ⟨gb114, 4, none⟩ = some (.int .i64 a0_4) := (blk_cell BK114.out 4).trans rfl
                            have hfz31_0 := blk_frozen BK114.out 0
                            have hfz31_1 := blk_frozen BK114.out 1
                            have hfz31_2 := blk_frozen BK114.out 2
                            have hfz31_3 := blk_frozen BK114.out 3
                            have hfz31_4 := blk_frozen BK114.out 4
                            try go_wp2
                            have n0_ := Aside0.mk (blk_drew BK114.out)
                            have n1_ := Aside0.mk (below_drew1 HB.out)
                            clear BK114
                            clear HB
                            have BK114 := n0_
                            have HB := n1_
                            clear n0_ n1_
                            refine start_ (n := 18) (S := fun w' => w'.cell? ⟨gb114, 0, none⟩ = some (.int .u8 a0_0) ∧ w'.cell? ⟨gb114, 1, none⟩ = some (.int .i64 a0_1) ∧ w'.cell? ⟨gb114, 2, none⟩ = some (.int .i64 a0_2) ∧ w'.cell? ⟨gb114, 3, none⟩ = some (.int .u8 a0_3) ∧ w'.cell? ⟨gb114, 4, none⟩ = some (.int .i64 a0_4)) (ds := []) #[false, false, false, false, false, false, false, false, false, false, false, false, false, false, false, false, false, false] (by kernel_rfl) rfl rfl ⟨(blk_cell BK114.out 0).trans rfl, (blk_cell BK114.out 1).trans rfl, (blk_cell BK114.out 2).trans rfl, (blk_cell BK114.out 3).trans rfl, (blk_cell BK114.out 4).trans rfl⟩ (fun hHeld => ?_); refine with_tabW vivariumref04_Print.tab10 vivariumref04_Print.bits10 (fun HT_ HW_ => ?_)
                            generalize wc.drew = w32 at BK114 HB hHeld ⊢
                            refine pure_ (i := 0) (N := some 36) (v := ?_) (a' := ?_) #[true, false, false, false, false, false, false, false, false, false, false, false, false, false, false, false, false, false] rfl rfl (any_of HT_.out (by kernel_rfl)) (fun _ _ _ h => h) (Or.inl ⟨by rfl, ?_⟩) ?_ ?_
                            rotate_left
                            · intro w'
                              go_simp
                              with_reducible rfl
                            rotate_left
                            · simp only [Act.put, List.setIfInBounds_toArray, List.set_cons_zero, List.set_cons_succ, i64_w, i32_w]
                              rfl
                            refine pure_ (i := 1) (N := some 37) (v := ?_) (a' := ?_) #[true, true, false, false, false, false, false, false, false, false, false, false, false, false, false, false, false, false] rfl rfl (any_of HT_.out (by kernel_rfl)) (fun _ _ _ h => h) (Or.inl ⟨by rfl, ?_⟩) ?_ ?_
                            rotate_left
                            · intro w'
                              go_simp
                              with_reducible rfl
                            rotate_left
                            · simp only [Act.put, List.setIfInBounds_toArray, List.set_cons_zero, List.set_cons_succ, i64_w, i32_w]
                              rfl
                            refine pure_ (i := 9) (N := some 45) (v := ?_) (a' := ?_) #[true, true, false, false, false, false, false, false, false, true, false, false, false, false, false, false, false, false] rfl rfl (any_of HT_.out (by kernel_rfl)) (fun _ _ _ h => h) (Or.inl ⟨by rfl, ?_⟩) ?_ ?_
                            rotate_left
                            · intro w'
                              go_simp
                              with_reducible rfl
                            rotate_left
                            · simp only [Act.put, List.setIfInBounds_toArray, List.set_cons_zero, List.set_cons_succ, i64_w, i32_w]
                              rfl
                            refine take_ (i := 2) (N := some 38) (v := ?_) (a' := ?_) #[true, true, true, false, false, false, false, false, false, true, false, false, false, false, false, false, false, false] rfl rfl (take_ofW HT_.out HW_.out (by kernel_rfl)) (fun _ _ _ h => h) (Or.inl ⟨by rfl, ?_⟩) hHeld ?_ ?_
                            rotate_left
                            · rintro w' ⟨s0, s1, s2, s3, s4⟩
                              go_simp
                              with_reducible rfl
                            rotate_left
                            · simp only [Act.put, List.setIfInBounds_toArray, List.set_cons_zero, List.set_cons_succ, i64_w, i32_w]
                              rfl
                            refine take_ (i := 5) (N := some 41) (v := ?_) (a' := ?_) #[true, true, true, false, false, true, false, false, false, true, false, false, false, false, false, false, false, false] rfl rfl (take_ofW HT_.out HW_.out (by kernel_rfl)) (fun _ _ _ h => h) (Or.inl ⟨by rfl, ?_⟩) hHeld ?_ ?_
                            rotate_left
                            · rintro w' ⟨s0, s1, s2, s3, s4⟩
                              go_simp
                              with_reducible rfl
                            rotate_left
                            · simp only [Act.put, List.setIfInBounds_toArray, List.set_cons_zero, List.set_cons_succ, i64_w, i32_w]
                              rfl
                            refine take_ (i := 10) (N := some 46) (v := ?_) (a' := ?_) #[true, true, true, false, false, true, false, false, false, true, true, false, false, false, false, false, false, false] rfl rfl (take_ofW HT_.out HW_.out (by kernel_rfl)) (fun _ _ _ h => h) (Or.inl ⟨by rfl, ?_⟩) hHeld ?_ ?_
                            rotate_left
                            · rintro w' ⟨s0, s1, s2, s3, s4⟩
                              go_simp
                              with_reducible rfl
                            rotate_left
                            · simp only [Act.put, List.setIfInBounds_toArray, List.set_cons_zero, List.set_cons_succ, i64_w, i32_w]
                              rfl
                            refine take_ (i := 13) (N := some 49) (v := ?_) (a' := ?_) #[true, true, true, false, false, true, false, false, false, true, true, false, false, true, false, false, false, false] rfl rfl (take_ofW HT_.out HW_.out (by kernel_rfl)) (fun _ _ _ h => h) (Or.inl ⟨by rfl, ?_⟩) hHeld ?_ ?_
                            rotate_left
                            · rintro w' ⟨s0, s1, s2, s3, s4⟩
                              go_simp
                              with_reducible rfl
                            rotate_left
                            · simp only [Act.put, List.setIfInBounds_toArray, List.set_cons_zero, List.set_cons_succ, i64_w, i32_w]
                              rfl
                            refine one_ (i := 3) (N := some 39) #[true, true, true, true, false, true, false, false, false, true, true, false, false, true, false, false, false, false] rfl rfl (one_of HT_.out (by kernel_rfl)) (by decide) (fun K hK => ?_)
                            refine goes_ Tryd.func27 (by kernel_rfl) rfl #[.int .i64 a0_1] (by rfl) rfl rfl (by (try simp only [List.map_toArray, List.map_cons, List.map_nil]); first | done | rfl | (simp only [List.length_drop, List.length_take]; rfl)) ?_
                            with_reducible refine (vivariumref01_Text.calls kj7 a0_1 t117 _ A22.out).mono ?_
                            rintro e w33 ⟨rfl, hb⟩
                            refine ⟨_, rfl, ?_⟩
                            have n0_ := Aside0.mk (blk_below (g := gb114) (o := .cells #[.int .u8 a0_0, .int .i64 a0_1, .int .i64 a0_2, .int .u8 a0_3, .int .i64 a0_4] 23 (0, 0)) (by (with_reducible repeat (first | refine blk_drewN ?_ _ | refine blk_drew ?_ | refine blk_alloc ?_ _)); exact BK114.out) hb)
                            have n1_ := Aside0.mk (below_step (by repeat (first | (with_reducible first | exact HB.out | apply below_alloc | apply pw_below_drewN | apply below_drew1 | refine below_set ?_ GE114.out) | exact HB.out)) hb)
                            clear BK114
                            clear HB
                            have BK114 := n0_
                            have HB := n1_
                            clear n0_ n1_
                            (try clear hb)
                            (try clear hb2)
                            (try clear hk)
                            (try clear hi)
                            refine hK.out _ _ ⟨(blk_cell BK114.out 0).trans rfl, (blk_cell BK114.out 1).trans rfl, (blk_cell BK114.out 2).trans rfl, (blk_cell BK114.out 3).trans rfl, (blk_cell BK114.out 4).trans rfl⟩ (fun hHeld => ?_)
                            clear hK K
                            refine norm_ (a' := ?_) ?_ ?_
                            rotate_left
                            · show Act.put _ (some 39) _ = _
                              simp only [Act.put, List.setIfInBounds_toArray, List.set_cons_zero, List.set_cons_succ, i64_w, i32_w]
                              rfl
                            refine pure_ (i := 4) (N := some 40) (v := ?_) (a' := ?_) #[true, true, true, true, true, true, false, false, false, true, true, false, false, true, false, false, false, false] rfl rfl (any_of HT_.out (by kernel_rfl)) (fun _ _ _ h => h) (Or.inl ⟨by rfl, ?_⟩) ?_ ?_
                            rotate_left
                            · intro w'
                              go_simp
                              with_reducible rfl
                            rotate_left
                            · simp only [Act.put, List.setIfInBounds_toArray, List.set_cons_zero, List.set_cons_succ, i64_w, i32_w]
                              rfl
                            refine one_ (i := 6) (N := some 42) #[true, true, true, true, true, true, true, false, false, true, true, false, false, true, false, false, false, false] rfl rfl (one_of HT_.out (by kernel_rfl)) (by decide) (fun K hK => ?_)
                            refine goes_ Tryd.func28 (by kernel_rfl) rfl #[.agg #[.int .u8 a0_0, .int .i64 a0_1, .int .i64 a0_2, .int .u8 a0_3, .int .i64 a0_4], .int .u8 1] (by rfl) rfl rfl (by (try simp only [List.map_toArray, List.map_cons, List.map_nil]); first | done | rfl | (simp only [List.length_drop, List.length_take]; rfl)) ?_
                            with_reducible refine (vivariumref04_tail.calls kj7 a0_0 a0_1 a0_2 a0_3 a0_4 1 t118 _ A24.out).mono ?_
                            rintro e w34 ⟨rfl, hb⟩
                            refine ⟨_, rfl, ?_⟩
                            have n0_ := Aside0.mk (blk_below (g := gb114) (o := .cells #[.int .u8 a0_0, .int .i64 a0_1, .int .i64 a0_2, .int .u8 a0_3, .int .i64 a0_4] 23 (0, 0)) (by (with_reducible repeat (first | refine blk_drewN ?_ _ | refine blk_drew ?_ | refine blk_alloc ?_ _)); exact BK114.out) hb)
                            have n1_ := Aside0.mk (below_step (by repeat (first | (with_reducible first | exact HB.out | apply below_alloc | apply pw_below_drewN | apply below_drew1 | refine below_set ?_ GE114.out) | exact HB.out)) hb)
                            clear BK114
                            clear HB
                            have BK114 := n0_
                            have HB := n1_
                            clear n0_ n1_
                            (try clear hb)
                            (try clear hb2)
                            (try clear hk)
                            (try clear hi)
                            refine hK.out _ _ ⟨(blk_cell BK114.out 0).trans rfl, (blk_cell BK114.out 1).trans rfl, (blk_cell BK114.out 2).trans rfl, (blk_cell BK114.out 3).trans rfl, (blk_cell BK114.out 4).trans rfl⟩ (fun hHeld => ?_)
                            clear hK K
                            refine norm_ (a' := ?_) ?_ ?_
                            rotate_left
                            · show Act.put _ (some 42) _ = _
                              simp only [Act.put, List.setIfInBounds_toArray, List.set_cons_zero, List.set_cons_succ, i64_w, i32_w]
                              rfl
                            refine pure_ (i := 7) (N := some 43) (v := ?_) (a' := ?_) #[true, true, true, true, true, true, true, true, false, true, true, false, false, true, false, false, false, false] rfl rfl (any_of HT_.out (by kernel_rfl)) (fun _ _ _ h => h) (Or.inl ⟨by rfl, ?_⟩) ?_ ?_
                            rotate_left
                            · intro w'
                              go_simp
                              with_reducible rfl
                            rotate_left
                            · simp only [Act.put, List.setIfInBounds_toArray, List.set_cons_zero, List.set_cons_succ, i64_w, i32_w]
                              rfl
                            refine pure_ (i := 8) (N := some 44) (v := ?_) (a' := ?_) #[true, true, true, true, true, true, true, true, true, true, true, false, false, true, false, false, false, false] rfl rfl (any_of HT_.out (by kernel_rfl)) (fun _ _ _ h => h) (Or.inl ⟨by rfl, ?_⟩) ?_ ?_
                            rotate_left
                            · intro w'
                              go_simp
                              with_reducible rfl
                            rotate_left
                            · simp only [Act.put, List.setIfInBounds_toArray, List.set_cons_zero, List.set_cons_succ, i64_w, i32_w]
                              rfl
                            refine one_ (i := 11) (N := some 47) #[true, true, true, true, true, true, true, true, true, true, true, true, false, true, false, false, false, false] rfl rfl (one_of HT_.out (by kernel_rfl)) (by decide) (fun K hK => ?_)
                            refine goes_ Tryd.func27 (by kernel_rfl) rfl #[.int .i64 a0_2] (by rfl) rfl rfl (by (try simp only [List.map_toArray, List.map_cons, List.map_nil]); first | done | rfl | (simp only [List.length_drop, List.length_take]; rfl)) ?_
                            with_reducible refine (vivariumref01_Text.calls kj7 a0_2 t119 _ A27.out).mono ?_
                            rintro e w35 ⟨rfl, hb⟩
                            refine ⟨_, rfl, ?_⟩
                            have n0_ := Aside0.mk (blk_below (g := gb114) (o := .cells #[.int .u8 a0_0, .int .i64 a0_1, .int .i64 a0_2, .int .u8 a0_3, .int .i64 a0_4] 23 (0, 0)) (by (with_reducible repeat (first | refine blk_drewN ?_ _ | refine blk_drew ?_ | refine blk_alloc ?_ _)); exact BK114.out) hb)
                            have n1_ := Aside0.mk (below_step (by repeat (first | (with_reducible first | exact HB.out | apply below_alloc | apply pw_below_drewN | apply below_drew1 | refine below_set ?_ GE114.out) | exact HB.out)) hb)
                            clear BK114
                            clear HB
                            have BK114 := n0_
                            have HB := n1_
                            clear n0_ n1_
                            (try clear hb)
                            (try clear hb2)
                            (try clear hk)
                            (try clear hi)
                            refine hK.out _ _ ⟨(blk_cell BK114.out 0).trans rfl, (blk_cell BK114.out 1).trans rfl, (blk_cell BK114.out 2).trans rfl, (blk_cell BK114.out 3).trans rfl, (blk_cell BK114.out 4).trans rfl⟩ (fun hHeld => ?_)
                            clear hK K
                            refine norm_ (a' := ?_) ?_ ?_
                            rotate_left
                            · show Act.put _ (some 47) _ = _
                              simp only [Act.put, List.setIfInBounds_toArray, List.set_cons_zero, List.set_cons_succ, i64_w, i32_w]
                              rfl
                            refine pure_ (i := 12) (N := some 48) (v := ?_) (a' := ?_) #[true, true, true, true, true, true, true, true, true, true, true, true, true, true, false, false, false, false] rfl rfl (any_of HT_.out (by kernel_rfl)) (fun _ _ _ h => h) (Or.inl ⟨by rfl, ?_⟩) ?_ ?_
                            rotate_left
                            · intro w'
                              go_simp
                              with_reducible rfl
                            rotate_left
                            · simp only [Act.put, List.setIfInBounds_toArray, List.set_cons_zero, List.set_cons_succ, i64_w, i32_w]
                              rfl
                            refine one_ (i := 14) (N := some 50) #[true, true, true, true, true, true, true, true, true, true, true, true, true, true, true, false, false, false] rfl rfl (one_of HT_.out (by kernel_rfl)) (by decide) (fun K hK => ?_)
                            refine goes_ Tryd.func28 (by kernel_rfl) rfl #[.agg #[.int .u8 a0_0, .int .i64 a0_1, .int .i64 a0_2, .int .u8 a0_3, .int .i64 a0_4], .int .u8 2] (by rfl) rfl rfl (by (try simp only [List.map_toArray, List.map_cons, List.map_nil]); first | done | rfl | (simp only [List.length_drop, List.length_take]; rfl)) ?_
                            with_reducible refine (vivariumref04_tail.calls kj7 a0_0 a0_1 a0_2 a0_3 a0_4 2 t120 _ A29.out).mono ?_
                            rintro e w36 ⟨rfl, hb⟩
                            refine ⟨_, rfl, ?_⟩
                            have n0_ := Aside0.mk (blk_below (g := gb114) (o := .cells #[.int .u8 a0_0, .int .i64 a0_1, .int .i64 a0_2, .int .u8 a0_3, .int .i64 a0_4] 23 (0, 0)) (by (with_reducible repeat (first | refine blk_drewN ?_ _ | refine blk_drew ?_ | refine blk_alloc ?_ _)); exact BK114.out) hb)
                            have n1_ := Aside0.mk (below_step (by repeat (first | (with_reducible first | exact HB.out | apply below_alloc | apply pw_below_drewN | apply below_drew1 | refine below_set ?_ GE114.out) | exact HB.out)) hb)
                            clear BK114
                            clear HB
                            have BK114 := n0_
                            have HB := n1_
                            clear n0_ n1_
                            (try clear hb)
                            (try clear hb2)
                            (try clear hk)
                            (try clear hi)
                            refine hK.out _ _ ⟨(blk_cell BK114.out 0).trans rfl, (blk_cell BK114.out 1).trans rfl, (blk_cell BK114.out 2).trans rfl, (blk_cell BK114.out 3).trans rfl, (blk_cell BK114.out 4).trans rfl⟩ (fun hHeld => ?_)
                            clear hK K
                            refine norm_ (a' := ?_) ?_ ?_
                            rotate_left
                            · show Act.put _ (some 50) _ = _
                              simp only [Act.put, List.setIfInBounds_toArray, List.set_cons_zero, List.set_cons_succ, i64_w, i32_w]
                              rfl
                            refine pure_ (i := 15) (N := some 51) (v := ?_) (a' := ?_) #[true, true, true, true, true, true, true, true, true, true, true, true, true, true, true, true, false, false] rfl rfl (any_of HT_.out (by kernel_rfl)) (fun _ _ _ h => h) (Or.inl ⟨by rfl, ?_⟩) ?_ ?_
                            rotate_left
                            · intro w'
                              go_simp
                              with_reducible rfl
                            rotate_left
                            · simp only [Act.put, List.setIfInBounds_toArray, List.set_cons_zero, List.set_cons_succ, i64_w, i32_w]
                              rfl
                            refine pure_ (i := 16) (N := some 2) (v := ?_) (a' := ?_) #[true, true, true, true, true, true, true, true, true, true, true, true, true, true, true, true, true, false] rfl rfl (any_of HT_.out (by kernel_rfl)) (fun _ _ _ h => h) (Or.inl ⟨by rfl, ?_⟩) ?_ ?_
                            rotate_left
                            · intro w'
                              go_simp
                              with_reducible rfl
                            rotate_left
                            · simp only [Act.put, List.setIfInBounds_toArray, List.set_cons_zero, List.set_cons_succ, i64_w, i32_w]
                              rfl
                            refine pure_ (i := 17) (N := some 3) (v := ?_) (a' := ?_) #[true, true, true, true, true, true, true, true, true, true, true, true, true, true, true, true, true, true] rfl rfl (any_of HT_.out (by kernel_rfl)) (fun _ _ _ h => h) (Or.inl ⟨by rfl, ?_⟩) ?_ ?_
                            rotate_left
                            · intro w'
                              go_simp
                              with_reducible rfl
                            rotate_left
                            · simp only [Act.put, List.setIfInBounds_toArray, List.set_cons_zero, List.set_cons_succ, i64_w, i32_w]
                              rfl
                            refine done_ (done_of HT_.out (by kernel_rfl)) ?_
                            try go_wp2
                            go_ret2
                            exact ⟨by first | rfl | (simp [errW_none, errW_some] <;> rfl) | (simp only [← hji4]; first | rfl | (simp [errW_none, errW_some] <;> rfl)) | (simp [*, errW_none, errW_some] <;> rfl), by repeat (first | (with_reducible first | exact HB.out | apply below_alloc | apply pw_below_drewN | apply below_drew1 | refine below_set ?_ GE114.out) | exact HB.out)⟩
                          · rw [if_neg c30] at H
                            exact absurd H (by simp)
                        · rw [if_neg c28] at H
                          exact absurd H (by simp)
                      · rw [if_neg c26] at H
                        exact absurd H (by simp)
                    · rw [if_neg c25] at H
                      exact absurd H (by simp)
                  · rw [if_neg c23] at H
                    exact absurd H (by simp)
        · rw [if_neg c7] at H
          exact absurd H (by simp)
      · rw [if_neg c6] at H
        exact absurd H (by simp)
    · rw [if_neg c5] at H
      exact absurd H (by simp)
  · rw [if_neg c3] at H
    have c3b0 : (t115 == 0) = false := beq_eq_false_iff_ne.mpr c3
    have c3b1 : (t115 != 0) = true := bne_iff_ne.mpr c3
    simp only [Option.some.injEq, Prod.mk.injEq] at H
    obtain ⟨rfl, rfl⟩ := H
    go_enter Tryd.func11, Tryd.ntmps11
    go_wp2_with (first | ((with_reducible refine gate_dst (N := 1) rfl ?_); refine box_event ?hg (N := 1) ?hd (cs := #[.int .u8 a0_0, .int .i64 a0_1, .int .i64 a0_2, .int .u8 a0_3, .int .i64 a0_4]) (t := 23) ?hr ?_; (case hd => rfl); (case hg => rfl); (case hr => first | (go_simp; done) | (go_simp; rfl)); intro gb114 hg w37 hbox hb; have n0_ := Aside0.mk (below_step (by repeat (first | (with_reducible first | exact HB.out | apply below_alloc | apply pw_below_drewN | apply below_drew1) | exact HB.out)) hb); have n1_ := Aside0.mk (hbox); have n2_ := Aside0.mk ((by rw [hg]; exact (below_size (by repeat (first | (with_reducible first | exact HB.out | apply below_alloc | apply pw_below_drewN | apply below_drew1) | exact HB.out))) : w.heap.size ≤ gb114)); have n3_ := Aside0.mk ((by rw [hg]; exact (below_size (by repeat (first | (with_reducible first | exact HB.out | apply below_alloc | apply pw_below_drewN | apply below_drew1) | exact HB.out))) : w.heap.size ≤ gb114)); clear HB; have HB := n0_; have BK114 := n1_; have GW114 := n2_; have GE114 := n3_; clear n0_ n1_ n2_ n3_; clear hb hbox hg; have hcz38_0 : w37.cell? ⟨gb114, 0, none⟩ = some (.int .u8 a0_0) := (blk_cell BK114.out 0).trans rfl; have hcz38_1 : w37.cell? ⟨gb114, 1, none⟩ = some (.int .i64 a0_1) := (blk_cell BK114.out 1).trans rfl; have hcz38_2 : w37.cell? ⟨gb114, 2, none⟩ = some (.int .i64 a0_2) := (blk_cell BK114.out 2).trans rfl; have hcz38_3 : w37.cell? ⟨gb114, 3, none⟩ = some (.int .u8 a0_3) := (blk_cell BK114.out 3).trans rfl; have hcz38_4 : w37.cell? ⟨gb114, 4, none⟩ = some (.int .i64 a0_4) := (blk_cell BK114.out 4).trans rfl; have hfz38_0 := blk_frozen BK114.out 0; have hfz38_1 := blk_frozen BK114.out 1; have hfz38_2 := blk_frozen BK114.out 2; have hfz38_3 := blk_frozen BK114.out 3; have hfz38_4 := blk_frozen BK114.out 4) | ((with_reducible refine gate_callee (f := 13) rfl ?_); refine goesL_ (some 8) rfl rfl Tryd.func13 (by kernel_rfl) rfl #[.agg #[.int .u8 a0_0, .int .i64 a0_1, .int .i64 a0_2, .int .u8 a0_3, .int .i64 a0_4]] rfl (by (try simp only [List.map_toArray, List.map_cons, List.map_nil]); first | done | rfl | (simp only [List.length_drop, List.length_take]; rfl)) ?_; (with_reducible refine (vivariumref04_Check.calls k a0_0 a0_1 a0_2 a0_3 a0_4 t115 _ A2.out).mono ?_); rintro e w39 ⟨rfl, hb⟩; refine ⟨_, rfl, ?_⟩; have n0_ := Aside0.mk (blk_below (g := gb114) (o := .cells #[.int .u8 a0_0, .int .i64 a0_1, .int .i64 a0_2, .int .u8 a0_3, .int .i64 a0_4] 23 (0, 0)) (by (with_reducible repeat (first | refine blk_drewN ?_ _ | refine blk_drew ?_ | refine blk_alloc ?_ _)); exact BK114.out) hb); have n1_ := Aside0.mk (below_step (by repeat (first | (with_reducible first | exact HB.out | apply below_alloc | apply pw_below_drewN | apply below_drew1 | refine below_set ?_ GE114.out) | exact HB.out)) hb); clear BK114; clear HB; have BK114 := n0_; have HB := n1_; clear n0_ n1_; (try clear hb); (try clear hb2); (try clear hk); (try clear hi)))
    go_ret2
    exact ⟨by first | rfl | (simp [errW_none, errW_some] <;> rfl) | (simp [*, errW_none, errW_some] <;> rfl), by repeat (first | (with_reducible first | exact HB.out | apply below_alloc | apply pw_below_drewN | apply below_drew1 | refine below_set ?_ GE114.out) | exact HB.out)⟩

end Go.Proofs.YtmcidodpnhkdfaaDoor.PR
