/- What the row of this claim leans on, part 4. -/
import Derived.Test.YtlghmadoogblcaaKCounts3
section
namespace Go.Proofs.Ytlghmadoogblcaa.PF
open Go.Proofs.Ytlghmadoogblcaa.PW (S31 z31 k31 k31_open k31_mk k31_openM k31_mkM k31_openF k31_mkF rd_T31 at_T31)
open Go.Proofs.Ytlghmadoogblcaa.PB (vivariumref02_Valid.f vivariumref02_Valid.mono vivariumref02_Valid.calls vivariumref02_Valid.mono_l)
open Go.RowKit Go.Proofs.YtlghmadoogblcaaW.PrintWords Go.Proofs.YtlghmadoogblcaaW.PrintLast Go.Proofs.YtlghmadoogblcaaW.PrintMore
attribute [local go_sem] max2_int min2_int max_two min_two max_three min_three max_four min_four   -- for this text's walks alone
set_option linter.unusedVariables false
set_option linter.unusedSimpArgs false
mutual
def vivariumref02_fits.l0 : Nat → List (S31) → Int → Option (Int)
  | 0, _, _ => none
  | k + 1, x0, x3 => if x3 < (x0.length : Int) then (if 0 ≤ x3 then ((vivariumref02_Valid.f k ((rd_T31 x0 x3).f0) ((rd_T31 x0 x3).f1)).bind fun t106 => (if t106 = true then (vivariumref02_fits.l0 k x0 (wrap64 (x3 + 1))) else (some 20))) else (none)) else (vivariumref02_fits.l1 k x0 1)
def vivariumref02_fits.l1 : Nat → List (S31) → Int → Option (Int)
  | 0, _, _ => none
  | k + 1, x0, x4 => if x4 < (x0.length : Int) then (if 0 ≤ x4 then (if 0 < (x0.length : Int) then (if ((rd_T31 x0 x4).f0) = ((rd_T31 x0 0).f0) then (vivariumref02_fits.l1 k x0 (wrap64 (x4 + 1))) else (some 21)) else (none)) else (none)) else (some 0)
end
def vivariumref02_fits.f (k : Nat) (l0 : List (S31)) : Option (Int) := vivariumref02_fits.l0 k l0 0
set_option maxHeartbeats 8000000 in
set_option maxRecDepth 100000 in
theorem vivariumref02_fits.calls (k : Nat) (A0 : Option Addr) (c0 : Nat) (l0 : List (S31)) (r : Int) (w : World) (hr0 : Kd.C k31 w A0 l0.length l0) (hc0 : l0.length ≤ c0) (h : vivariumref02_fits.f k l0 = some r) :
    Calls Try.prog 54 #[.slice A0 l0.length c0] w fun e w' => e = .returned (.int .i64 r) ∧ Below w.heap.size w w' := by
  have hu31 := Try.underlying31
  have HR0 := Aside0.mk hr0
  have HC0 := Aside0.mk hc0
  clear hr0 hc0
  have HB := Aside0.mk (Below.refl w.heap.size w)
  have H : (vivariumref02_fits.l0 k l0 0) = some r := h
  clear h
  have H' := Aside0.mk H
  clear H
  go_enter Try.func54, Try.ntmps54
  go_wp2
  repeat (go_quiet (fail); try go_wp2)
  go_loopg [3] k (fun kq v3 w' => ∃ (x3_1 : Int), v3 = .int .i64 x3_1 ∧ Aside0 (vivariumref02_fits.l0 kq l0 x3_1 = some r) ∧ Aside0 (kq ≤ k) ∧ Aside0 (Below w.heap.size w w'))
  case atStart => exact ⟨(0), (by first | rfl | (simp; done) | (simp [*]; done) | (simp [wrap64]; done)), H', ⟨Nat.le_refl _⟩, ⟨by repeat (first | (with_reducible first | exact HB.out | apply below_alloc | apply pw_below_drewN | apply below_drew1) | exact HB.out)⟩⟩
  case round =>
    clear H'
    obtain ⟨x3_1, rfl, HA, HK1, HB⟩ := hrel
    cases gk with
    | zero => exact absurd HA.out (by simp [vivariumref02_fits.l0])
    | succ k1 =>
      have H := HA.out
      clear HA
      simp only [vivariumref02_fits.l0] at H
      by_cases c2 : x3_1 < (l0.length : Int)
      · rw [if_pos c2] at H
        have c2b0 : decide (x3_1 < (l0.length : Int)) = true := decide_eq_true c2
        clear c2
        by_cases c3 : 0 ≤ x3_1
        · rw [if_pos c3] at H
          have c3b0 : decide (0 ≤ x3_1) = true := decide_eq_true c3
          clear c3
          replace H := Option.bind_eq_some_iff.mp H
          obtain ⟨t106, A40, H⟩ := H
          replace H : (if t106 = true then (vivariumref02_fits.l0 k1 l0 (wrap64 (x3_1 + 1))) else (some 20)) = some r := H
          have A4 := Aside0.mk A40
          clear A40
          by_cases c5 : t106 = true
          · subst c5
            have H1 : (vivariumref02_fits.l0 k1 l0 (wrap64 (x3_1 + 1))) = some r := by rw [if_pos rfl] at H; exact H
            clear H
            have H := H1
            clear H1
            have H' := Aside0.mk H
            clear H
            have p105 : 0 ≤ (x3_1 : Int) := of_decide_eq_true (by first | (with_reducible assumption) | assumption)
            have q105 : x3_1 < (l0.length : Int) := of_decide_eq_true (by first | (with_reducible assumption) | assumption)
            obtain ⟨ad105, A105_1, c105_1, e105, hx105_0, hx105_1, hl105_1, hi105_1⟩ := at_T31 HR0.out x3_1 p105 q105
            cases e105
            replace hx105_0 := (HB.out.cell (World.block_lt_of_cell? w _ hx105_0)).trans hx105_0
            replace hx105_1 := (HB.out.cell (World.block_lt_of_cell? w _ hx105_1)).trans hx105_1
            have HR105_1 := Aside0.mk hi105_1
            have HC105_1 := Aside0.mk hl105_1
            clear hi105_1 hl105_1
            replace p105 := eq_true p105
            replace q105 := eq_true q105
            go_wp2_with (first | (go_at_call 26; (with_reducible refine (vivariumref02_Valid.calls k1 ((rd_T31 l0 x3_1).f0) _ _ ((rd_T31 l0 x3_1).f1) true _ ?side1 ?side2 A4.out).mono ?_); (case side1 => repeat (first | exact (Kd.C_below HR105_1.out HB.out) | (with_reducible refine Kd.C_alloc ?_ _) | (with_reducible refine Kd.C_drewN ?_ _) | (with_reducible refine Kd.C_drew ?_))); (case side2 => exact HC105_1.out); rintro e w6 ⟨rfl, hb⟩; have n0_ := Aside0.mk (below_step (by repeat (first | (with_reducible first | exact HB.out | apply below_alloc | apply pw_below_drewN | apply below_drew1) | exact HB.out)) hb); clear HB; have HB := n0_; clear n0_; (try clear hb); (try clear hb2); (try clear hk); (try clear hi)))
            repeat (go_quiet (first | (go_at_call 26; (with_reducible refine (vivariumref02_Valid.calls k1 ((rd_T31 l0 x3_1).f0) _ _ ((rd_T31 l0 x3_1).f1) true _ ?side1 ?side2 A4.out).mono ?_); (case side1 => repeat (first | exact (Kd.C_below HR105_1.out HB.out) | (with_reducible refine Kd.C_alloc ?_ _) | (with_reducible refine Kd.C_drewN ?_ _) | (with_reducible refine Kd.C_drew ?_))); (case side2 => exact HC105_1.out); rintro e w6 ⟨rfl, hb⟩; have n0_ := Aside0.mk (below_step (by repeat (first | (with_reducible first | exact HB.out | apply below_alloc | apply pw_below_drewN | apply below_drew1) | exact HB.out)) hb); clear HB; have HB := n0_; clear n0_; (try clear hb); (try clear hb2); (try clear hk); (try clear hi))); try go_wp2_with (first | (go_at_call 26; (with_reducible refine (vivariumref02_Valid.calls k1 ((rd_T31 l0 x3_1).f0) _ _ ((rd_T31 l0 x3_1).f1) true _ ?side1 ?side2 A4.out).mono ?_); (case side1 => repeat (first | exact (Kd.C_below HR105_1.out HB.out) | (with_reducible refine Kd.C_alloc ?_ _) | (with_reducible refine Kd.C_drewN ?_ _) | (with_reducible refine Kd.C_drew ?_))); (case side2 => exact HC105_1.out); rintro e w6 ⟨rfl, hb⟩; have n0_ := Aside0.mk (below_step (by repeat (first | (with_reducible first | exact HB.out | apply below_alloc | apply pw_below_drewN | apply below_drew1) | exact HB.out)) hb); clear HB; have HB := n0_; clear n0_; (try clear hb); (try clear hb2); (try clear hk); (try clear hi))))
            go_roundg k1
            case measure => have := HK1.out; omega
            case rel => exact ⟨(wrap64 (x3_1 + 1)), (by first | rfl | (simp; done) | (simp [*]; done) | (simp [wrap64]; done)), H', ⟨by have := HK1.out; omega⟩, ⟨by repeat (first | (with_reducible first | exact HB.out | apply below_alloc | apply pw_below_drewN | apply below_drew1) | exact HB.out)⟩⟩
          · replace c5 := Bool.eq_false_iff.mpr c5
            subst c5
            have H1 : (some 20) = some r := by rw [if_neg (show ¬ (false = true) by decide)] at H; exact H
            clear H
            have H := H1
            clear H1
            obtain rfl := Option.some.inj H
            have p105 : 0 ≤ (x3_1 : Int) := of_decide_eq_true (by first | (with_reducible assumption) | assumption)
            have q105 : x3_1 < (l0.length : Int) := of_decide_eq_true (by first | (with_reducible assumption) | assumption)
            obtain ⟨ad105, A105_1, c105_1, e105, hx105_0, hx105_1, hl105_1, hi105_1⟩ := at_T31 HR0.out x3_1 p105 q105
            cases e105
            replace hx105_0 := (HB.out.cell (World.block_lt_of_cell? w _ hx105_0)).trans hx105_0
            replace hx105_1 := (HB.out.cell (World.block_lt_of_cell? w _ hx105_1)).trans hx105_1
            have HR105_1 := Aside0.mk hi105_1
            have HC105_1 := Aside0.mk hl105_1
            clear hi105_1 hl105_1
            replace p105 := eq_true p105
            replace q105 := eq_true q105
            go_wp2_with (first | (go_at_call 26; (with_reducible refine (vivariumref02_Valid.calls k1 ((rd_T31 l0 x3_1).f0) _ _ ((rd_T31 l0 x3_1).f1) false _ ?side1 ?side2 A4.out).mono ?_); (case side1 => repeat (first | exact (Kd.C_below HR105_1.out HB.out) | (with_reducible refine Kd.C_alloc ?_ _) | (with_reducible refine Kd.C_drewN ?_ _) | (with_reducible refine Kd.C_drew ?_))); (case side2 => exact HC105_1.out); rintro e w7 ⟨rfl, hb⟩; have n0_ := Aside0.mk (below_step (by repeat (first | (with_reducible first | exact HB.out | apply below_alloc | apply pw_below_drewN | apply below_drew1) | exact HB.out)) hb); clear HB; have HB := n0_; clear n0_; (try clear hb); (try clear hb2); (try clear hk); (try clear hi)))
            repeat (go_quiet (first | (go_at_call 26; (with_reducible refine (vivariumref02_Valid.calls k1 ((rd_T31 l0 x3_1).f0) _ _ ((rd_T31 l0 x3_1).f1) false _ ?side1 ?side2 A4.out).mono ?_); (case side1 => repeat (first | exact (Kd.C_below HR105_1.out HB.out) | (with_reducible refine Kd.C_alloc ?_ _) | (with_reducible refine Kd.C_drewN ?_ _) | (with_reducible refine Kd.C_drew ?_))); (case side2 => exact HC105_1.out); rintro e w7 ⟨rfl, hb⟩; have n0_ := Aside0.mk (below_step (by repeat (first | (with_reducible first | exact HB.out | apply below_alloc | apply pw_below_drewN | apply below_drew1) | exact HB.out)) hb); clear HB; have HB := n0_; clear n0_; (try clear hb); (try clear hb2); (try clear hk); (try clear hi))); try go_wp2_with (first | (go_at_call 26; (with_reducible refine (vivariumref02_Valid.calls k1 ((rd_T31 l0 x3_1).f0) _ _ ((rd_T31 l0 x3_1).f1) false _ ?side1 ?side2 A4.out).mono ?_); (case side1 => repeat (first | exact (Kd.C_below HR105_1.out HB.out) | (with_reducible refine Kd.C_alloc ?_ _) | (with_reducible refine Kd.C_drewN ?_ _) | (with_reducible refine Kd.C_drew ?_))); (case side2 => exact HC105_1.out); rintro e w7 ⟨rfl, hb⟩; have n0_ := Aside0.mk (below_step (by repeat (first | (with_reducible first | exact HB.out | apply below_alloc | apply pw_below_drewN | apply below_drew1) | exact HB.out)) hb); clear HB; have HB := n0_; clear n0_; (try clear hb); (try clear hb2); (try clear hk); (try clear hi))))
            go_ret
            exact ⟨by first | rfl | (simp [errW_none, errW_some] <;> rfl) | (simp [*, errW_none, errW_some] <;> rfl), by repeat (first | (with_reducible first | exact HB.out | apply below_alloc | apply pw_below_drewN | apply below_drew1) | exact HB.out)⟩
        · rw [if_neg c3] at H
          exact absurd H (by simp)
      · rw [if_neg c2] at H
        have c2b0 : decide (x3_1 < (l0.length : Int)) = false := decide_eq_false c2
        clear c2
        have H' := Aside0.mk H
        clear H
        go_wp2
        repeat (go_quiet (fail); try go_wp2)
        go_loopg [4] k1 (fun kq v4 w' => ∃ (x4_2 : Int), v4 = .int .i64 x4_2 ∧ Aside0 (vivariumref02_fits.l1 kq l0 x4_2 = some r) ∧ Aside0 (kq ≤ k1) ∧ Aside0 (Below w.heap.size w w'))
        case atStart => exact ⟨(1), (by first | rfl | (simp; done) | (simp [*]; done) | (simp [wrap64]; done)), H', ⟨Nat.le_refl _⟩, ⟨by repeat (first | (with_reducible first | exact HB.out | apply below_alloc | apply pw_below_drewN | apply below_drew1) | exact HB.out)⟩⟩
        case round =>
          clear H'
          try clear c1
          try clear p1
          try clear q1
          try clear hx1
          try clear c2
          try clear c2b0
          try clear p2
          try clear c3
          try clear c3b0
          try clear c5
          try clear p6
          try clear hx105_0
          try clear hx105_1
          try clear p105
          try clear q105
          obtain ⟨x4_2, rfl, HA, HK2, HB⟩ := hrel
          cases gk with
          | zero => exact absurd HA.out (by simp [vivariumref02_fits.l1])
          | succ k2 =>
            have H := HA.out
            clear HA
            simp only [vivariumref02_fits.l1] at H
            by_cases c8 : x4_2 < (l0.length : Int)
            · rw [if_pos c8] at H
              have c8b0 : decide (x4_2 < (l0.length : Int)) = true := decide_eq_true c8
              clear c8
              by_cases c9 : 0 ≤ x4_2
              · rw [if_pos c9] at H
                have c9b0 : decide (0 ≤ x4_2) = true := decide_eq_true c9
                clear c9
                by_cases c10 : 0 < (l0.length : Int)
                · rw [if_pos c10] at H
                  have c10b0 : decide (0 < (l0.length : Int)) = true := decide_eq_true c10
                  have c10b1 : decide (0 < l0.length) = true := decide_eq_true (by omega)
                  clear c10
                  by_cases c11 : ((rd_T31 l0 x4_2).f0) = ((rd_T31 l0 0).f0)
                  · rw [if_pos c11] at H
                    have c11b0 : (((rd_T31 l0 x4_2).f0) == ((rd_T31 l0 0).f0)) = true := beq_iff_eq.mpr c11
                    have c11b1 : (((rd_T31 l0 x4_2).f0) != ((rd_T31 l0 0).f0)) = false := bne_eq_false_iff_eq.mpr c11
                    clear c11
                    have H' := Aside0.mk H
                    clear H
                    have p107 : 0 ≤ (x4_2 : Int) := of_decide_eq_true (by first | (with_reducible assumption) | assumption)
                    have q107 : x4_2 < (l0.length : Int) := of_decide_eq_true (by first | (with_reducible assumption) | assumption)
                    obtain ⟨ad107, A107_1, c107_1, e107, hx107_0, hx107_1, hl107_1, hi107_1⟩ := at_T31 HR0.out x4_2 p107 q107
                    cases e107
                    replace hx107_0 := (HB.out.cell (World.block_lt_of_cell? w _ hx107_0)).trans hx107_0
                    replace hx107_1 := (HB.out.cell (World.block_lt_of_cell? w _ hx107_1)).trans hx107_1
                    have HR107_1 := Aside0.mk hi107_1
                    have HC107_1 := Aside0.mk hl107_1
                    clear hi107_1 hl107_1
                    replace p107 := eq_true p107
                    replace q107 := eq_true q107
                    have p108 : 0 ≤ (0 : Int) := (by omega)
                    have q108 : 0 < (l0.length : Int) := of_decide_eq_true (by first | (with_reducible assumption) | assumption)
                    obtain ⟨ad108, A108_1, c108_1, e108, hx108_0, hx108_1, hl108_1, hi108_1⟩ := at_T31 HR0.out 0 p108 q108
                    obtain rfl : ad107 = ad108 := (by injection e108)
                    have qi108 : (0 < l0.length) = True := eq_true (by omega)
                    (try rw [show ((0 : Int)).toNat = 0 from rfl] at hx108_0)
                    (try rw [show 0 * 2 = 0 from rfl] at hx108_0)
                    (try rw [Addr.add_zero'] at hx108_0)
                    (try rw [show ((0 : Int)).toNat = 0 from rfl] at hx108_1)
                    (try rw [show 0 * 2 = 0 from rfl] at hx108_1)
                    (try rw [Addr.add_zero'] at hx108_1)
                    replace hx108_0 := (HB.out.cell (World.block_lt_of_cell? w _ hx108_0)).trans hx108_0
                    replace hx108_1 := (HB.out.cell (World.block_lt_of_cell? w _ hx108_1)).trans hx108_1
                    have HR108_1 := Aside0.mk hi108_1
                    have HC108_1 := Aside0.mk hl108_1
                    clear hi108_1 hl108_1
                    replace p108 := eq_true p108
                    replace q108 := eq_true q108
                    go_wp2
                    repeat (go_quiet (fail); try go_wp2)
                    go_roundg k2
                    case measure => have := HK1.out; have := HK2.out; omega
                    case rel => exact ⟨(wrap64 (x4_2 + 1)), (by first | rfl | (simp; done) | (simp [*]; done) | (simp [wrap64]; done)), H', ⟨by have := HK1.out; have := HK2.out; omega⟩, ⟨by repeat (first | (with_reducible first | exact HB.out | apply below_alloc | apply pw_below_drewN | apply below_drew1) | exact HB.out)⟩⟩
                  · rw [if_neg c11] at H
                    have c11b0 : (((rd_T31 l0 x4_2).f0) == ((rd_T31 l0 0).f0)) = false := beq_eq_false_iff_ne.mpr c11
                    have c11b1 : (((rd_T31 l0 x4_2).f0) != ((rd_T31 l0 0).f0)) = true := bne_iff_ne.mpr c11
                    obtain rfl := Option.some.inj H
                    have p107 : 0 ≤ (x4_2 : Int) := of_decide_eq_true (by first | (with_reducible assumption) | assumption)
                    have q107 : x4_2 < (l0.length : Int) := of_decide_eq_true (by first | (with_reducible assumption) | assumption)
                    obtain ⟨ad107, A107_1, c107_1, e107, hx107_0, hx107_1, hl107_1, hi107_1⟩ := at_T31 HR0.out x4_2 p107 q107
                    cases e107
                    replace hx107_0 := (HB.out.cell (World.block_lt_of_cell? w _ hx107_0)).trans hx107_0
                    replace hx107_1 := (HB.out.cell (World.block_lt_of_cell? w _ hx107_1)).trans hx107_1
                    have HR107_1 := Aside0.mk hi107_1
                    have HC107_1 := Aside0.mk hl107_1
                    clear hi107_1 hl107_1
                    replace p107 := eq_true p107
                    replace q107 := eq_true q107
                    have p108 : 0 ≤ (0 : Int) := (by omega)
                    have q108 : 0 < (l0.length : Int) := of_decide_eq_true (by first | (with_reducible assumption) | assumption)
                    obtain ⟨ad108, A108_1, c108_1, e108, hx108_0, hx108_1, hl108_1, hi108_1⟩ := at_T31 HR0.out 0 p108 q108
                    obtain rfl : ad107 = ad108 := (by injection e108)
                    have qi108 : (0 < l0.length) = True := eq_true (by omega)
                    (try rw [show ((0 : Int)).toNat = 0 from rfl] at hx108_0)
                    (try rw [show 0 * 2 = 0 from rfl] at hx108_0)
                    (try rw [Addr.add_zero'] at hx108_0)
                    (try rw [show ((0 : Int)).toNat = 0 from rfl] at hx108_1)
                    (try rw [show 0 * 2 = 0 from rfl] at hx108_1)
                    (try rw [Addr.add_zero'] at hx108_1)
                    replace hx108_0 := (HB.out.cell (World.block_lt_of_cell? w _ hx108_0)).trans hx108_0
                    replace hx108_1 := (HB.out.cell (World.block_lt_of_cell? w _ hx108_1)).trans hx108_1
                    have HR108_1 := Aside0.mk hi108_1
                    have HC108_1 := Aside0.mk hl108_1
                    clear hi108_1 hl108_1
                    replace p108 := eq_true p108
                    replace q108 := eq_true q108
                    go_wp2
                    repeat (go_quiet (fail); try go_wp2)
                    go_ret
                    exact ⟨by first | rfl | (simp [errW_none, errW_some] <;> rfl) | (simp [*, errW_none, errW_some] <;> rfl), by repeat (first | (with_reducible first | exact HB.out | apply below_alloc | apply pw_below_drewN | apply below_drew1) | exact HB.out)⟩
                · rw [if_neg c10] at H
                  exact absurd H (by simp)
              · rw [if_neg c9] at H
                exact absurd H (by simp)
            · rw [if_neg c8] at H
              have c8b0 : decide (x4_2 < (l0.length : Int)) = false := decide_eq_false c8
              clear c8
              obtain rfl := Option.some.inj H
              go_wp2
              repeat (go_quiet (fail); try go_wp2)
              go_ret
              exact ⟨by first | rfl | (simp [errW_none, errW_some] <;> rfl) | (simp [*, errW_none, errW_some] <;> rfl), by repeat (first | (with_reducible first | exact HB.out | apply below_alloc | apply pw_below_drewN | apply below_drew1) | exact HB.out)⟩
end Go.Proofs.Ytlghmadoogblcaa.PF
end
section
namespace Go.Proofs.Ytlghmadoogblcaa.RefPlain
open Go Go.RowKit Go.Proofs.Ytlghmadoogblcaa.PW Go.Proofs.YtlghmadoogblcaaW.PrintWords Go.Proofs.YtlghmadoogblcaaW.PrintLast Go.Proofs.YtlghmadoogblcaaW.PrintMore Go.Proofs.Ytlghmadoogblcaa.Bits Go.Proofs.Ytlghmadoogblcaa.Rowp
set_option maxRecDepth 100000
set_option linter.unusedVariables false
theorem rd31 (l : List S31) (j : Nat) : rd_T31 l (j : Int) = l.getD j z31 := rfl
theorem fits_l1 (l : List S31) (hlen : l.length ≤ 1000000) : ∀ (d k x : Nat) (xI : Int), xI = x → x + d = l.length → d < k →
    ((∀ j, x ≤ j → j < l.length → (l.getD j z31).f0 = (l.getD 0 z31).f0) ∧ words_fits.l1 k l l (l.length : Int) xI = some 0) ∨ (¬ (∀ j, x ≤ j → j < l.length → (l.getD j z31).f0 = (l.getD 0 z31).f0) ∧ words_fits.l1 k l l (l.length : Int) xI = some 21)
  | 0, k + 1, x, _, rfl, h, _ => .inl ⟨fun j h1 h2 => by omega, by rw [words_fits.l1, if_neg (by omega)]⟩
  | d + 1, k + 1, x, _, rfl, h, hk => by
    rw [words_fits.l1, if_pos (by omega), if_pos (by omega), if_pos (by omega), if_pos (by omega), rd31, show rd_T31 l 0 = l.getD 0 z31 from rfl]
    by_cases e : (l.getD x z31).f0 = (l.getD 0 z31).f0
    · rw [if_pos e, w64 ((x : Int) + 1) (by omega)]
      rcases fits_l1 l hlen d k (x + 1) _ rfl (by omega) (by omega) with ⟨h1, h2⟩ | ⟨h1, h2⟩
      · refine .inl ⟨fun j a b => ?_, by rw [← h2]; rfl⟩
        by_cases hj : j = x
        · rw [hj]; exact e
        · exact h1 j (by omega) b
      · exact .inr ⟨fun q => h1 (fun j a b => q j (by omega) b), by rw [← h2]; rfl⟩
    · rw [if_neg e]
      exact .inr ⟨fun q => e (q x (Nat.le_refl _) (by omega)), rfl⟩
theorem reffits_l1 (l : List S31) (hlen : l.length ≤ 1000000) : ∀ (d k x : Nat) (xI : Int), xI = x → x + d = l.length → d < k →
    ((∀ j, x ≤ j → j < l.length → (l.getD j z31).f0 = (l.getD 0 z31).f0) ∧ PF.vivariumref02_fits.l1 k l xI = some 0) ∨ (¬ (∀ j, x ≤ j → j < l.length → (l.getD j z31).f0 = (l.getD 0 z31).f0) ∧ PF.vivariumref02_fits.l1 k l xI = some 21)
  | 0, k + 1, x, _, rfl, h, _ => .inl ⟨fun j h1 h2 => by omega, by rw [PF.vivariumref02_fits.l1, if_neg (by omega)]⟩
  | d + 1, k + 1, x, _, rfl, h, hk => by
    rw [PF.vivariumref02_fits.l1, if_pos (by omega), if_pos (by omega), if_pos (by omega), rd31, show rd_T31 l 0 = l.getD 0 z31 from rfl]
    by_cases e : (l.getD x z31).f0 = (l.getD 0 z31).f0
    · rw [if_pos e, w64 ((x : Int) + 1) (by omega)]
      rcases reffits_l1 l hlen d k (x + 1) _ rfl (by omega) (by omega) with ⟨h1, h2⟩ | ⟨h1, h2⟩
      · refine .inl ⟨fun j a b => ?_, by rw [← h2]; rfl⟩
        by_cases hj : j = x
        · rw [hj]; exact e
        · exact h1 j (by omega) b
      · exact .inr ⟨fun q => h1 (fun j a b => q j (by omega) b), by rw [← h2]; rfl⟩
    · rw [if_neg e]
      exact .inr ⟨fun q => e (q x (Nat.le_refl _) (by omega)), rfl⟩
def RowOk (x : S31) : Prop := ∃ (m : Nat) (W : Nat → Nat), x = ⟨(m : Int), rowOf (nw m) W⟩ ∧ Rowp.Good m W
theorem row_ok (x : S31) (h : U64 x.f1) : (RowOk x ∧ words_Valid.f x.f0 x.f1 = some true ∧ ∀ k, 70000 < k → PB.vivariumref02_Valid.f k x.f0 x.f1 = some true) ∨ (¬ RowOk x ∧ words_Valid.f x.f0 x.f1 = some false ∧ ∀ k, 70000 < k → PB.vivariumref02_Valid.f k x.f0 x.f1 = some false) := by
  obtain ⟨n, xs⟩ := x
  rcases row_cases n xs h with ⟨m, W, rfl, rfl, g⟩ | ⟨h1, h2⟩
  · exact .inl ⟨⟨m, W, rfl, g⟩, valid_spec g, fun k hk => refvalid_good g k hk⟩
  · refine .inr ⟨?_, h1, h2⟩
    rintro ⟨m, W, e, g⟩
    injection e with e1 e2
    subst e1 e2
    have := valid_spec g
    rw [this] at h1
    cases h1
theorem fits_l0 (l : List S31) (hlen : l.length ≤ 1000000) (hu : ∀ j, j < l.length → U64 (l.getD j z31).f1) : ∀ (d k x : Nat) (xI : Int), xI = x → x + d = l.length → d < k →
    ((∀ j, x ≤ j → j < l.length → RowOk (l.getD j z31)) ∧ ∃ k', k ≤ k' + d + 1 ∧ words_fits.l0 k l l (l.length : Int) xI = words_fits.l1 k' l l (l.length : Int) 0) ∨ (¬ (∀ j, x ≤ j → j < l.length → RowOk (l.getD j z31)) ∧ words_fits.l0 k l l (l.length : Int) xI = some 20)
  | 0, k + 1, x, _, rfl, h, _ => .inl ⟨fun j h1 h2 => by omega, k, by omega, by rw [words_fits.l0, if_neg (by omega)]⟩
  | d + 1, k + 1, x, _, rfl, h, hk => by
    rw [words_fits.l0, if_pos (by omega), if_pos (by omega), if_pos (by omega), rd31]
    rcases row_ok _ (hu x (by omega)) with ⟨r1, r2, _⟩ | ⟨r1, r2, _⟩
    · rw [r2, Option.bind_some, if_pos rfl, w64 ((x : Int) + 1) (by omega)]
      rcases fits_l0 l hlen hu d k (x + 1) _ rfl (by omega) (by omega) with ⟨h1, k', hk', h2⟩ | ⟨h1, h2⟩
      · refine .inl ⟨fun j a b => ?_, k', by omega, by rw [← h2]; rfl⟩
        by_cases hj : j = x
        · rw [hj]; exact r1
        · exact h1 j (by omega) b
      · exact .inr ⟨fun q => h1 (fun j a b => q j (by omega) b), by rw [← h2]; rfl⟩
    · rw [r2, Option.bind_some, if_neg (by decide)]
      exact .inr ⟨fun q => r1 (q x (Nat.le_refl _) (by omega)), rfl⟩
theorem reffits_l0 (l : List S31) (hlen : l.length ≤ 1000000) (hu : ∀ j, j < l.length → U64 (l.getD j z31).f1) : ∀ (d k x : Nat) (xI : Int), xI = x → x + d = l.length → d + 70001 < k →
    ((∀ j, x ≤ j → j < l.length → RowOk (l.getD j z31)) ∧ ∃ k', k ≤ k' + d + 1 ∧ PF.vivariumref02_fits.l0 k l xI = PF.vivariumref02_fits.l1 k' l 1) ∨ (¬ (∀ j, x ≤ j → j < l.length → RowOk (l.getD j z31)) ∧ PF.vivariumref02_fits.l0 k l xI = some 20)
  | 0, k + 1, x, _, rfl, h, _ => .inl ⟨fun j h1 h2 => by omega, k, by omega, by rw [PF.vivariumref02_fits.l0, if_neg (by omega)]⟩
  | d + 1, k + 1, x, _, rfl, h, hk => by
    rw [PF.vivariumref02_fits.l0, if_pos (by omega), if_pos (by omega), rd31]
    rcases row_ok _ (hu x (by omega)) with ⟨r1, _, r2⟩ | ⟨r1, _, r2⟩
    · rw [r2 k (by omega), Option.bind_some, if_pos rfl, w64 ((x : Int) + 1) (by omega)]
      rcases reffits_l0 l hlen hu d k (x + 1) _ rfl (by omega) (by omega) with ⟨h1, k', hk', h2⟩ | ⟨h1, h2⟩
      · refine .inl ⟨fun j a b => ?_, k', by omega, by rw [← h2]; rfl⟩
        by_cases hj : j = x
        · rw [hj]; exact r1
        · exact h1 j (by omega) b
      · exact .inr ⟨fun q => h1 (fun j a b => q j (by omega) b), by rw [← h2]; rfl⟩
    · rw [r2 k (by omega), Option.bind_some, if_neg (by decide)]
      exact .inr ⟨fun q => r1 (q x (Nat.le_refl _) (by omega)), rfl⟩
theorem fits_agree (l : List S31) (hlen : l.length ≤ 1000000) (hu : ∀ j, j < l.length → U64 (l.getD j z31).f1) (k : Nat) (hk : 3000000 < k) :
    ∃ e, words_fits.f k l = some e ∧ PF.vivariumref02_fits.f k l = some e ∧ (e = 0 → ∃ (m : Nat) (Wf : Nat → Nat → Nat), m ≤ 65538 ∧ ∀ j, j < l.length → l.getD j z31 = ⟨(m : Int), rowOf (nw m) (Wf j)⟩ ∧ Rowp.Good m (Wf j)) := by
  unfold words_fits.f PF.vivariumref02_fits.f
  rcases fits_l0 l hlen hu l.length k 0 0 rfl (by omega) (by omega) with ⟨h1, k1, hk1, e1⟩ | ⟨h1, e1⟩
  · rcases reffits_l0 l hlen hu l.length k 0 0 rfl (by omega) (by omega) with ⟨_, k2, hk2, e2⟩ | ⟨h2, _⟩
    · rw [e1, e2]
      have s1 : ∀ e : Int, (words_fits.l1 k1 l l (l.length : Int) 0 = some e ∧ PF.vivariumref02_fits.l1 k2 l 1 = some e) → (e = 0 → ∀ j, j < l.length → (l.getD j z31).f0 = (l.getD 0 z31).f0) → ∃ e, words_fits.l1 k1 l l (l.length : Int) 0 = some e ∧ PF.vivariumref02_fits.l1 k2 l 1 = some e ∧ (e = 0 → ∃ (m : Nat) (Wf : Nat → Nat → Nat), m ≤ 65538 ∧ ∀ j, j < l.length → l.getD j z31 = ⟨(m : Int), rowOf (nw m) (Wf j)⟩ ∧ Rowp.Good m (Wf j)) := by
        rintro e ⟨a, b⟩ hall
        refine ⟨e, a, b, fun he => ?_⟩
        have hall := hall he
        by_cases hl : l.length = 0
        · exact ⟨0, fun _ _ => 0, by omega, fun j hj => by omega⟩
        · obtain ⟨m, W0, e0, g0⟩ := h1 0 (Nat.le_refl _) (by omega)
          have hx : ∀ j, ∃ W : Nat → Nat, j < l.length → l.getD j z31 = ⟨(m : Int), rowOf (nw m) W⟩ ∧ Rowp.Good m W := by
            intro j
            by_cases hj : j < l.length
            · obtain ⟨m', W, e', g'⟩ := h1 j (Nat.zero_le _) hj
              have h5 := hall j hj
              rw [e', e0] at h5
              have h6 : m' = m := by have h7 : (m' : Int) = (m : Int) := h5; omega
              subst h6
              exact ⟨W, fun _ => ⟨e', g'⟩⟩
            · exact ⟨fun _ => 0, fun h => absurd h hj⟩
          exact ⟨m, fun j => (hx j).choose, g0.le, fun j hj => (hx j).choose_spec hj⟩
      by_cases hl : l.length = 0
      · rcases fits_l1 l hlen l.length k1 0 0 rfl (by omega) (by omega) with ⟨a, b⟩ | ⟨a, b⟩
        · refine s1 0 ⟨b, ?_⟩ (fun _ j hj => by omega)
          obtain ⟨k2, rfl⟩ : ∃ z, k2 = z + 1 := ⟨k2 - 1, by omega⟩
          rw [PF.vivariumref02_fits.l1, if_neg (by omega)]
        · exact absurd (fun j _ hj => by omega) a
      · rcases fits_l1 l hlen l.length k1 0 0 rfl (by omega) (by omega) with ⟨a, b⟩ | ⟨a, b⟩
        · rcases reffits_l1 l hlen (l.length - 1) k2 1 1 rfl (by omega) (by omega) with ⟨c, d⟩ | ⟨c, d⟩
          · exact s1 0 ⟨b, d⟩ (fun _ j hj => a j (Nat.zero_le _) hj)
          · exact absurd (fun j h1 h2 => a j (Nat.zero_le _) h2) c
        · rcases reffits_l1 l hlen (l.length - 1) k2 1 1 rfl (by omega) (by omega) with ⟨c, d⟩ | ⟨c, d⟩
          · refine absurd (fun j h1 h2 => ?_) a
            by_cases hj : j = 0
            · rw [hj]
            · exact c j (by omega) h2
          · exact s1 21 ⟨b, d⟩ (fun h => by cases h)
    · exact absurd h1 h2
  · rcases reffits_l0 l hlen hu l.length k 0 0 rfl (by omega) (by omega) with ⟨h2, _⟩ | ⟨h2, e2⟩
    · exact absurd h2 h1
    · exact ⟨20, e1, e2, fun h => by cases h⟩
end Go.Proofs.Ytlghmadoogblcaa.RefPlain
end
section
namespace Go.Proofs.Ytlghmadoogblcaa.PW
open Go.RowKit Go.Proofs.YtlghmadoogblcaaW.PrintWords Go.Proofs.YtlghmadoogblcaaW.PrintLast Go.Proofs.YtlghmadoogblcaaW.PrintMore
attribute [local go_sem] max2_int min2_int max_two min_two max_three min_three max_four min_four   -- for this text's walks alone
set_option linter.unusedVariables false
set_option linter.unusedSimpArgs false
end Go.Proofs.Ytlghmadoogblcaa.PW
end
section
namespace Go.Proofs.Ytlghmadoogblcaa.PW
open Go.RowKit Go.Proofs.YtlghmadoogblcaaW.PrintWords Go.Proofs.YtlghmadoogblcaaW.PrintLast Go.Proofs.YtlghmadoogblcaaW.PrintMore
attribute [local go_sem] max2_int min2_int max_two min_two max_three min_three max_four min_four   -- for this text's walks alone
set_option linter.unusedVariables false
set_option linter.unusedSimpArgs false
end Go.Proofs.Ytlghmadoogblcaa.PW
end
section
namespace Go.Proofs.Ytlghmadoogblcaa.PW
open Go.RowKit Go.Proofs.YtlghmadoogblcaaW.PrintWords Go.Proofs.YtlghmadoogblcaaW.PrintLast Go.Proofs.YtlghmadoogblcaaW.PrintMore
attribute [local go_sem] max2_int min2_int max_two min_two max_three min_three max_four min_four   -- for this text's walks alone
set_option linter.unusedVariables false
set_option linter.unusedSimpArgs false
end Go.Proofs.Ytlghmadoogblcaa.PW
end
section
namespace Go.Proofs.Ytlghmadoogblcaa.Rowp
open Go Go.RowKit Go.Proofs.Ytlghmadoogblcaa.PW Go.Proofs.YtlghmadoogblcaaW.PrintWords Go.Proofs.YtlghmadoogblcaaW.PrintLast Go.Proofs.YtlghmadoogblcaaW.PrintMore Go.Proofs.Ytlghmadoogblcaa.Bits
set_option maxRecDepth 100000
set_option linter.unusedVariables false
end Go.Proofs.Ytlghmadoogblcaa.Rowp
end
section
namespace Go.Proofs.Ytlghmadoogblcaa.Rowp
open Go Go.RowKit Go.Proofs.Ytlghmadoogblcaa.PW Go.Proofs.YtlghmadoogblcaaW.PrintWords Go.Proofs.YtlghmadoogblcaaW.PrintLast Go.Proofs.YtlghmadoogblcaaW.PrintMore Go.Proofs.Ytlghmadoogblcaa.Bits
set_option maxRecDepth 100000
set_option linter.unusedVariables false
end Go.Proofs.Ytlghmadoogblcaa.Rowp
end
section
namespace Go.Proofs.Ytlghmadoogblcaa.PB
open Go.RowKit Go.Proofs.YtlghmadoogblcaaW.PrintWords Go.Proofs.YtlghmadoogblcaaW.PrintLast Go.Proofs.YtlghmadoogblcaaW.PrintMore
attribute [local go_sem] max2_int min2_int max_two min_two max_three min_three max_four min_four   -- for this text's walks alone
set_option linter.unusedVariables false
set_option linter.unusedSimpArgs false
end Go.Proofs.Ytlghmadoogblcaa.PB
end
section
namespace Go.Proofs.Ytlghmadoogblcaa.PB
open Go.RowKit Go.Proofs.YtlghmadoogblcaaW.PrintWords Go.Proofs.YtlghmadoogblcaaW.PrintLast Go.Proofs.YtlghmadoogblcaaW.PrintMore
attribute [local go_sem] max2_int min2_int max_two min_two max_three min_three max_four min_four   -- for this text's walks alone
set_option linter.unusedVariables false
set_option linter.unusedSimpArgs false
end Go.Proofs.Ytlghmadoogblcaa.PB
end
section
namespace Go.Proofs.Ytlghmadoogblcaa.RefPlain
open Go Go.RowKit Go.Proofs.Ytlghmadoogblcaa.PW Go.Proofs.Ytlghmadoogblcaa.PB Go.Proofs.YtlghmadoogblcaaW.PrintWords Go.Proofs.YtlghmadoogblcaaW.PrintLast Go.Proofs.YtlghmadoogblcaaW.PrintMore Go.Proofs.Ytlghmadoogblcaa.Bits Go.Proofs.Ytlghmadoogblcaa.Rowp
set_option maxRecDepth 100000
set_option linter.unusedVariables false
def doneTo (n x : Nat) (f g : Nat → Bool) : List Bool := (List.range n).map fun i => if i < x then f i else g i
theorem doneTo_len (n x : Nat) (f g : Nat → Bool) : (doneTo n x f g).length = n := by simp [doneTo]
theorem doneTo_get {n x i : Nat} (f g : Nat → Bool) (h : i < n) : (doneTo n x f g)[i]? = some (if i < x then f i else g i) := by simp [doneTo, h]
theorem doneTo_set {n x : Nat} (f g : Nat → Bool) (h : x < n) : (doneTo n x f g).set x (f x) = doneTo n (x + 1) f g := by
  apply List.ext_getElem?
  intro i
  rw [List.getElem?_set]
  by_cases hi : i < n
  · rw [doneTo_get f g hi, doneTo_get f g hi]
    by_cases e : x = i
    · subst e
      rw [if_pos rfl, if_pos (by rw [doneTo_len]; exact h), if_pos (by omega)]
    · rw [if_neg e]
      by_cases h2 : i < x
      · rw [if_pos h2, if_pos (by omega)]
      · rw [if_neg h2, if_neg (by omega)]
  · have e : x ≠ i := by omega
    rw [if_neg e, List.getElem?_eq_none (by rw [doneTo_len]; omega), List.getElem?_eq_none (by rw [doneTo_len]; omega)]
theorem doneTo_zero (n : Nat) (f : Nat → Bool) : doneTo n 0 f (fun _ => false) = List.replicate n false := by
  apply List.ext_getElem?
  intro i
  by_cases h : i < n
  · simp [doneTo, h]
  · simp [doneTo, h]
theorem row_done {n : Nat} (hn : n ≤ 65538) (f g : Nat → Bool) : ∃ V, Rowp.Good n V ∧ (∀ i, i < n → bitAt V i = f i) ∧ ∀ k, 70000 < k → vivariumref02_Row.f k (doneTo n n f g) = some ((n : Int), rowOf (nw n) V) := by
  have hl : (doneTo n n f g).length = n := doneTo_len _ _ _ _
  obtain ⟨V, gV, hb, hr⟩ := row_spec (l := doneTo n n f g) (by omega) 70001 (by omega)
  rw [hl] at gV hb hr
  refine ⟨V, gV, fun i hi => ?_, fun k hk => at_rounds (g := fun k => vivariumref02_Row.f k (doneTo n n f g)) (fun k => vivariumref02_Row.mono _ k) (show 70001 ≤ k by omega) hr⟩
  rw [hb i hi, List.getD_eq_getElem?_getD, doneTo_get f g hi, if_pos hi]
  rfl
end Go.Proofs.Ytlghmadoogblcaa.RefPlain
end
section
namespace Go.Proofs.Ytlghmadoogblcaa.CountWalk
open Go Go.RowKit Go.Proofs.YtlghmadoogblcaaW.PrintWords Go.Proofs.YtlghmadoogblcaaW.PrintLast Go.Proofs.YtlghmadoogblcaaW.PrintMore Go.Proofs.Ytlghmadoogblcaa.PW Go.Proofs.Ytlghmadoogblcaa.Book Go.Proofs.Ytlghmadoogblcaa.Lent Go.Proofs.Ytlghmadoogblcaa.Pile Go.Proofs.Ytlghmadoogblcaa.Rows4
set_option linter.unusedVariables false
set_option linter.unusedSimpArgs false
def Q4.word (q : Q4) (i : Nat) (w : Int) : Q4 :=
  ⟨q.a.set i (Go.bits .xor .u64 (q.a.getD i 0) w), q.b.set i (Go.bits .xor .u64 (q.b.getD i 0) (Go.bits .and .u64 (q.a.getD i 0) w)),
   q.c.set i (Go.bits .xor .u64 (q.c.getD i 0) (Go.bits .and .u64 (q.b.getD i 0) (Go.bits .and .u64 (q.a.getD i 0) w))),
   q.d.set i (Go.bits .xor .u64 (q.d.getD i 0) (Go.bits .and .u64 (q.c.getD i 0) (Go.bits .and .u64 (q.b.getD i 0) (Go.bits .and .u64 (q.a.getD i 0) w))))⟩
def Q4.wordsTo (q : Q4) (ws : List Int) : Nat → Q4
  | 0 => q
  | i + 1 => Q4.word (Q4.wordsTo q ws i) i (ws.getD i 0)
def Q4.rowsTo (q : Q4) (l : List S31) : Nat → Q4
  | 0 => q
  | j + 1 => Q4.wordsTo (Q4.rowsTo q l j) (l.getD j z31).f1 (l.getD j z31).f1.length
def zero4 (L : Nat) : Q4 := ⟨List.replicate L 0, List.replicate L 0, List.replicate L 0, List.replicate L 0⟩
theorem cell_lt {w : World} {p : Addr} {v : Value} (h : w.cell? p = some v) : p.block < w.heap.size := by
  rcases Nat.lt_or_ge p.block w.heap.size with hl | hl
  · exact hl
  · unfold World.cell? at h
    rw [Array.getElem?_eq_none hl] at h
    simp at h
theorem at_row {w W : World} {A : Option Addr} {n : Nat} {xs : List S31} (h : Kd.C k31 w A n xs) (hb : Below w.heap.size w W) (i : Int) (h0 : 0 ≤ i) (h1 : i < n) : ∃ ad A1 c1, A = some ad ∧ W.cell? (ad.add (i.toNat * 2)) = some (.int .i64 (rd_T31 xs i).f0) ∧
    W.cell? ⟨(ad.add (i.toNat * 2)).block, (ad.add (i.toNat * 2)).off + 1, none⟩ = some (.slice A1 (rd_T31 xs i).f1.length c1) ∧ (rd_T31 xs i).f1.length ≤ c1 ∧ (Kd.int .u64).C w A1 (rd_T31 xs i).f1.length (rd_T31 xs i).f1 := by
  obtain ⟨ad, A1, c1, e, hc0, hc1, hl, hC⟩ := at_T31 h i h0 h1
  exact ⟨ad, A1, c1, e, (hb.cell (cell_lt hc0)).trans hc0, (hb.cell (p := ⟨(ad.add (i.toNat * 2)).block, (ad.add (i.toNat * 2)).off + 1, none⟩) (cell_lt hc1)).trans hc1, hl, hC⟩
theorem own_word {w : World} {base g n m c : Nat} {xs : List Int} (h : w.ownsRow base 22 1 (.slice (some ⟨g, 0, none⟩) m c) n (nums .u64 xs)) (i : Int) (h0 : 0 ≤ i) (h1 : i < xs.length) : w.cell? ⟨g, i.toNat, none⟩ = some (.int .u64 (xs.getD i.toNat 0)) := by
  have hc := h.cells (g := g) rfl i.toNat (.int .u64 (xs.getD i.toNat 0)) (by rw [nums, List.getElem?_map, List.getElem?_eq_getElem (by omega), List.getD_eq_getElem?_getD, List.getElem?_eq_getElem (by omega)]; rfl)
  have e2 : (⟨g, 0, none⟩ : Addr).add i.toNat = ⟨g, i.toNat, none⟩ := by cases i.toNat <;> simp [Addr.add]
  rwa [e2] at hc
theorem own_frozen {w : World} {base g n m c : Nat} {xs : List Value} (h : w.ownsRow base 22 1 (.slice (some ⟨g, 0, none⟩) m c) n xs) (j : Nat) : w.frozen? ⟨g, j, none⟩ = false := by
  rcases h.2 with ⟨h', _⟩ | ⟨g', cap', cur, h', _, hh, _⟩
  · cases h'
  · have : g = g' := by injection h' with h'; injection h' with h'; injection h' with h'
    subst this
    simp [World.frozen?, hh]
theorem own_some {w : World} {base n m c : Nat} {A : Option Addr} {xs : List Value} (h : w.ownsRow base 22 1 (.slice A m c) n xs) (hm : 0 < m) : ∃ g, A = some ⟨g, 0, none⟩ := by
  obtain ⟨A', c', e⟩ := own_slice h
  injection e with _ e
  subst e
  obtain ⟨g, cp, e, _⟩ := h.form hm
  injection e with e1
  exact ⟨g, e1⟩
theorem own_len {w : World} {base n m c : Nat} {A : Option Addr} {xs : List Value} (h : w.ownsRow base 22 1 (.slice A m c) n xs) : m = n := by
  obtain ⟨A', c', e⟩ := own_slice h
  injection e
set_option maxHeartbeats 8000000 in
set_option maxRecDepth 100000 in
theorem count_rows (k : Nat) (A0 : Option Addr) (c0 : Nat) (l : List S31) (n : Int) (L : Nat) (w : World) (hr0 : Kd.C k31 w A0 l.length l) (hc0 : l.length ≤ c0) (h15 : l.length ≤ 15) (hpos : 0 < l.length) (hfit : words_fits.f k l = some 0)
    (hL : ∀ j : Nat, j < l.length → (l.getD j z31).f1.length = L) (hn : (l.getD 0 z31).f0 = n) (hbl : words_blank.f n = some (n, List.replicate L 0)) (hLb : L ≤ 2000000) :
    Calls Try.prog 33 #[.slice A0 l.length c0] w fun e w' => ∃ v0 v1 v2 v3, e = .returned (.tuple #[.agg (cells4 n v0 v1 v2 v3).toArray, .int .i64 0]) ∧ Rws w.heap.size w' ((Q4.rowsTo (zero4 L) l l.length).rows v0 v1 v2 v3) ∧ Below w.heap.size w w' := by
  have HR := Aside0.mk hr0; have HC0 := Aside0.mk hc0; have HF := Aside0.mk hfit; have HL := Aside0.mk hL; have HN := Aside0.mk hn; have HBL := Aside0.mk hbl
  have hu := Try.underlying31
  have hu4 := Try.underlying54
  clear hr0 hfit hL hn hbl
  have d15 : decide ((l.length : Int) > 15) = false := decide_eq_false (by omega)
  have dp : decide ((l.length : Int) > 0) = true := decide_eq_true (by omega)
  go_enter Try.func33, Try.ntmps33
  go_wp2_with (first
    | ((with_reducible refine gate_dst (N := 2) rfl ?_); refine box_event ?hg2 (N := 2) ?hd2 (cs := #[.int .i64 0, .slice none 0 0, .int .i64 0, .slice none 0 0, .int .i64 0, .slice none 0 0, .int .i64 0, .slice none 0 0]) (t := 54) ?hr2 ?_; (case hd2 => rfl); (case hg2 => rfl); (case hr2 => first | (go_simp; done) | (go_simp; rfl)); intro r gr W1 x1 hb1; have hgr : w.heap.size ≤ r := (by omega); clear gr)
    | ((with_reducible refine gate_dst (N := 4) rfl ?_); refine box_event ?hg4 (N := 4) ?hd4 (cs := #[.int .i64 0, .slice none 0 0, .int .i64 0, .slice none 0 0, .int .i64 0, .slice none 0 0, .int .i64 0, .slice none 0 0]) (t := 54) ?hr4 ?_; (case hd4 => rfl); (case hg4 => rfl); (case hr4 => first | (go_simp; done) | (go_simp; rfl)); intro b gb W2 x2 hb2; have P2 : CS w W2 b r (cells4 0 (.slice none 0 0) (.slice none 0 0) (.slice none 0 0) (.slice none 0 0)) [] := ⟨chain_ hb1 hb2, x2, blk_below x1 hb2, (by have := hb1.size; omega), (by omega), (by have := blk_lt x1; omega), Rws.nil⟩; have P := Aside0.mk P2; clear P2 x1 x2 hb1 hb2 gb)
    | (go_at_call 55; have P1 := P.out; with_reducible refine (words_fits.calls k A0 c0 l 0 _ (Kd.C_below HR.out P1.be) HC0.out HF.out).mono ?_; rintro er_ v1 ⟨rfl, hb⟩; have P2 := P1.on hb; clear hb P P1; have P := Aside0.mk P2; clear P2; obtain ⟨ad, A1, cc, e_, z0, -, -, -⟩ := at_row HR.out P.out.be 0 (by omega) (by omega); subst e_; have z1 : v1.cell? ad = some (.int .i64 n) := (by have h_ := z0; rw [show rd_T31 l 0 = l.getD 0 z31 from rfl, HN.out] at h_; simpa [Addr.add] using h_); clear z0))
  refine wp_loop_rounds 5 ?_
  clear z1
  rw [rounds_succ]
  go_wp2_with (go_at_call 47; have P1 := P.out; with_reducible refine (words_blank.calls n n (List.replicate L 0) _ HBL.out).mono ?_; rintro er_ u0 ⟨t_, rfl, hR, hb⟩; obtain ⟨A_0, c_0, e_, -, -⟩ := Kd.R_reads hR; rw [List.length_replicate] at e_; subst e_; have P2 := P1.told hb hR; clear hb hR P P1; have P := Aside0.mk P2; clear P2; have x_0 := P.out.at_.2 0 _ rfl; have f_0 := blk_frozen P.out.bx 0; have x_1 := P.out.at_.2 1 _ rfl; have f_1 := blk_frozen P.out.bx 1; have x_2 := P.out.at_.2 2 _ rfl; have f_2 := blk_frozen P.out.bx 2; have x_3 := P.out.at_.2 3 _ rfl; have f_3 := blk_frozen P.out.bx 3; have x_4 := P.out.at_.2 4 _ rfl; have f_4 := blk_frozen P.out.bx 4; have x_5 := P.out.at_.2 5 _ rfl; have f_5 := blk_frozen P.out.bx 5; have x_6 := P.out.at_.2 6 _ rfl; have f_6 := blk_frozen P.out.bx 6; have x_7 := P.out.at_.2 7 _ rfl; have f_7 := blk_frozen P.out.bx 7; have q_b := P.out.at_.1)
  have P2 : CS w _ b r [.int .i64 n, .slice A_0 L c_0, .int .i64 0, .slice none 0 0, .int .i64 0, .slice none 0 0, .int .i64 0, .slice none 0 0] [(.slice A_0 L c_0, List.replicate L 0)] := P.out.put 0 (.int .i64 n) (.slice A_0 L c_0) (by simp [cells4])
  clear x_0 f_0 x_1 f_1 x_2 f_2 x_3 f_3 x_4 f_4 x_5 f_5 x_6 f_6 x_7 f_7 q_b
  clear P
  have P := Aside0.mk P2
  clear P2
  generalize (World.setCell _ _ _).setCell _ _ = w0 at P ⊢
  rw [rounds_succ]
  go_wp2_with (go_at_call 47; have P1 := P.out; with_reducible refine (words_blank.calls n n (List.replicate L 0) _ HBL.out).mono ?_; rintro er_ u1 ⟨t_, rfl, hR, hb⟩; obtain ⟨A_1, c_1, e_, -, -⟩ := Kd.R_reads hR; rw [List.length_replicate] at e_; subst e_; have P2 := P1.told hb hR; clear hb hR P P1; have P := Aside0.mk P2; clear P2; have x_0 := P.out.at_.2 0 _ rfl; have f_0 := blk_frozen P.out.bx 0; have x_1 := P.out.at_.2 1 _ rfl; have f_1 := blk_frozen P.out.bx 1; have x_2 := P.out.at_.2 2 _ rfl; have f_2 := blk_frozen P.out.bx 2; have x_3 := P.out.at_.2 3 _ rfl; have f_3 := blk_frozen P.out.bx 3; have x_4 := P.out.at_.2 4 _ rfl; have f_4 := blk_frozen P.out.bx 4; have x_5 := P.out.at_.2 5 _ rfl; have f_5 := blk_frozen P.out.bx 5; have x_6 := P.out.at_.2 6 _ rfl; have f_6 := blk_frozen P.out.bx 6; have x_7 := P.out.at_.2 7 _ rfl; have f_7 := blk_frozen P.out.bx 7; have q_b := P.out.at_.1)
  have P2 : CS w _ b r [.int .i64 n, .slice A_0 L c_0, .int .i64 n, .slice A_1 L c_1, .int .i64 0, .slice none 0 0, .int .i64 0, .slice none 0 0] [(.slice A_0 L c_0, List.replicate L 0), (.slice A_1 L c_1, List.replicate L 0)] := P.out.put 2 (.int .i64 n) (.slice A_1 L c_1) (by simp [cells4])
  clear x_0 f_0 x_1 f_1 x_2 f_2 x_3 f_3 x_4 f_4 x_5 f_5 x_6 f_6 x_7 f_7 q_b
  clear P
  have P := Aside0.mk P2
  clear P2
  generalize (World.setCell _ _ _).setCell _ _ = w1 at P ⊢
  rw [rounds_succ]
  go_wp2_with (go_at_call 47; have P1 := P.out; with_reducible refine (words_blank.calls n n (List.replicate L 0) _ HBL.out).mono ?_; rintro er_ u2 ⟨t_, rfl, hR, hb⟩; obtain ⟨A_2, c_2, e_, -, -⟩ := Kd.R_reads hR; rw [List.length_replicate] at e_; subst e_; have P2 := P1.told hb hR; clear hb hR P P1; have P := Aside0.mk P2; clear P2; have x_0 := P.out.at_.2 0 _ rfl; have f_0 := blk_frozen P.out.bx 0; have x_1 := P.out.at_.2 1 _ rfl; have f_1 := blk_frozen P.out.bx 1; have x_2 := P.out.at_.2 2 _ rfl; have f_2 := blk_frozen P.out.bx 2; have x_3 := P.out.at_.2 3 _ rfl; have f_3 := blk_frozen P.out.bx 3; have x_4 := P.out.at_.2 4 _ rfl; have f_4 := blk_frozen P.out.bx 4; have x_5 := P.out.at_.2 5 _ rfl; have f_5 := blk_frozen P.out.bx 5; have x_6 := P.out.at_.2 6 _ rfl; have f_6 := blk_frozen P.out.bx 6; have x_7 := P.out.at_.2 7 _ rfl; have f_7 := blk_frozen P.out.bx 7; have q_b := P.out.at_.1)
  have P2 : CS w _ b r [.int .i64 n, .slice A_0 L c_0, .int .i64 n, .slice A_1 L c_1, .int .i64 n, .slice A_2 L c_2, .int .i64 0, .slice none 0 0] [(.slice A_0 L c_0, List.replicate L 0), (.slice A_1 L c_1, List.replicate L 0), (.slice A_2 L c_2, List.replicate L 0)] := P.out.put 4 (.int .i64 n) (.slice A_2 L c_2) (by simp [cells4])
  clear x_0 f_0 x_1 f_1 x_2 f_2 x_3 f_3 x_4 f_4 x_5 f_5 x_6 f_6 x_7 f_7 q_b
  clear P
  have P := Aside0.mk P2
  clear P2
  generalize (World.setCell _ _ _).setCell _ _ = w2 at P ⊢
  rw [rounds_succ]
  go_wp2_with (go_at_call 47; have P1 := P.out; with_reducible refine (words_blank.calls n n (List.replicate L 0) _ HBL.out).mono ?_; rintro er_ u3 ⟨t_, rfl, hR, hb⟩; obtain ⟨A_3, c_3, e_, -, -⟩ := Kd.R_reads hR; rw [List.length_replicate] at e_; subst e_; have P2 := P1.told hb hR; clear hb hR P P1; have P := Aside0.mk P2; clear P2; have x_0 := P.out.at_.2 0 _ rfl; have f_0 := blk_frozen P.out.bx 0; have x_1 := P.out.at_.2 1 _ rfl; have f_1 := blk_frozen P.out.bx 1; have x_2 := P.out.at_.2 2 _ rfl; have f_2 := blk_frozen P.out.bx 2; have x_3 := P.out.at_.2 3 _ rfl; have f_3 := blk_frozen P.out.bx 3; have x_4 := P.out.at_.2 4 _ rfl; have f_4 := blk_frozen P.out.bx 4; have x_5 := P.out.at_.2 5 _ rfl; have f_5 := blk_frozen P.out.bx 5; have x_6 := P.out.at_.2 6 _ rfl; have f_6 := blk_frozen P.out.bx 6; have x_7 := P.out.at_.2 7 _ rfl; have f_7 := blk_frozen P.out.bx 7; have q_b := P.out.at_.1)
  have P2 : CS w _ b r [.int .i64 n, .slice A_0 L c_0, .int .i64 n, .slice A_1 L c_1, .int .i64 n, .slice A_2 L c_2, .int .i64 n, .slice A_3 L c_3] [(.slice A_0 L c_0, List.replicate L 0), (.slice A_1 L c_1, List.replicate L 0), (.slice A_2 L c_2, List.replicate L 0), (.slice A_3 L c_3, List.replicate L 0)] := P.out.put 6 (.int .i64 n) (.slice A_3 L c_3) (by simp [cells4])
  clear x_0 f_0 x_1 f_1 x_2 f_2 x_3 f_3 x_4 f_4 x_5 f_5 x_6 f_6 x_7 f_7 q_b
  clear P
  have P := Aside0.mk P2
  clear P2
  generalize (World.setCell _ _ _).setCell _ _ = w3 at P ⊢
  rw [rounds_succ]
  go_wp2
  go_loopg [40] l.length (fun q_ s40 wr => ∃ j : Int, s40 = .int .i64 j ∧ Aside0 (0 ≤ j ∧ j ≤ l.length ∧ (q_ : Int) = l.length - j) ∧ Aside0 (CS w wr b r [.int .i64 n, .slice A_0 L c_0, .int .i64 n, .slice A_1 L c_1, .int .i64 n, .slice A_2 L c_2, .int .i64 n, .slice A_3 L c_3] ((Q4.rowsTo (zero4 L) l j.toNat).rows (.slice A_0 L c_0) (.slice A_1 L c_1) (.slice A_2 L c_2) (.slice A_3 L c_3))))
  case atStart => exact ⟨0, rfl, ⟨by omega, by omega, by omega⟩, P⟩
  case round =>
    clear P
    obtain ⟨j, rfl, HJ, P⟩ := hrel
    by_cases qj : j < l.length
    · have pj : 0 ≤ j := HJ.out.1
      obtain ⟨ad', Aj, cj, e_, y0_, y1_, hle, hCj⟩ := at_row HR.out P.out.be j pj qj
      cases e_
      have hlen : (rd_T31 l j).f1.length = L := HL.out j.toNat (by omega)
      rw [hlen] at y1_ hle
      obtain ⟨Nj, hNj⟩ : ∃ q, (rd_T31 l j).f0 = q := ⟨_, rfl⟩
      rw [hNj] at y0_
      obtain ⟨ws, hws⟩ : ∃ q, (rd_T31 l j).f1 = q := ⟨_, rfl⟩
      rw [hws] at hCj hlen
      have HWS := Aside0.mk hws
      have HLN := Aside0.mk hlen
      have HCJ := Aside0.mk hCj
      clear hNj hws hlen hCj
      go_wp2
      have P2 := P.out.on (below_alloc (Below.refl _ wr) (.cells #[.int .i64 Nj, .slice Aj L cj] 31))
      clear P y0_ y1_
      have P := Aside0.mk P2
      clear P2
      generalize wr.alloc _ = wa at P ⊢
      go_loopg [47] L (fun q2_ s47 wx => ∃ y : Int, s47 = .int .i64 y ∧ Aside0 (0 ≤ y ∧ y ≤ L ∧ (q2_ : Int) = L - y) ∧ Aside0 (CS w wx b r [.int .i64 n, .slice A_0 L c_0, .int .i64 n, .slice A_1 L c_1, .int .i64 n, .slice A_2 L c_2, .int .i64 n, .slice A_3 L c_3] ((Q4.wordsTo (Q4.rowsTo (zero4 L) l j.toNat) ws y.toNat).rows (.slice A_0 L c_0) (.slice A_1 L c_1) (.slice A_2 L c_2) (.slice A_3 L c_3))))
      case atStart => exact ⟨0, rfl, ⟨by omega, by omega, by omega⟩, P⟩
      case round =>
        clear P
        obtain ⟨y, rfl, HY, P⟩ := hrel
        by_cases qy : y < L
        · have p : 0 ≤ y := HY.out.1
          obtain ⟨ad2, e_, hw0⟩ := Kd.at_int HCJ.out y p (by have := HLN.out; omega)
          subst e_
          have hw_ : wr.cell? (ad2.add y.toNat) = some (.int .u64 (rd ws y)) := (P.out.be.cell (cell_lt hw0)).trans hw0
          clear hw0
          obtain ⟨wd, hwd⟩ : ∃ q, rd ws y = q := ⟨_, rfl⟩
          rw [hwd] at hw_
          have HWD := Aside0.mk hwd
          clear hwd
          obtain ⟨⟨qa, qb, qc, qd⟩, hq⟩ : ∃ q : Q4, Q4.wordsTo (Q4.rowsTo (zero4 L) l j.toNat) ws y.toNat = q := ⟨_, rfl⟩
          have P2 := P.out
          rw [hq] at P2
          have HQ := Aside0.mk hq
          clear hq P
          have P := Aside0.mk P2
          clear P2
          obtain ⟨g0, e_⟩ := own_some (P.out.rows.own 0 _ rfl) (by omega)
          subst e_
          have HQ0 := Aside0.mk (show L = qa.length from own_len (P.out.rows.own 0 _ rfl))
          obtain ⟨x0, hx0⟩ : ∃ z, qa.getD y.toNat 0 = z := ⟨_, rfl⟩
          have HX0 := Aside0.mk hx0
          clear hx0
          obtain ⟨g1, e_⟩ := own_some (P.out.rows.own 1 _ rfl) (by omega)
          subst e_
          have HQ1 := Aside0.mk (show L = qb.length from own_len (P.out.rows.own 1 _ rfl))
          obtain ⟨x1, hx1⟩ : ∃ z, qb.getD y.toNat 0 = z := ⟨_, rfl⟩
          have HX1 := Aside0.mk hx1
          clear hx1
          obtain ⟨g2, e_⟩ := own_some (P.out.rows.own 2 _ rfl) (by omega)
          subst e_
          have HQ2 := Aside0.mk (show L = qc.length from own_len (P.out.rows.own 2 _ rfl))
          obtain ⟨x2, hx2⟩ : ∃ z, qc.getD y.toNat 0 = z := ⟨_, rfl⟩
          have HX2 := Aside0.mk hx2
          clear hx2
          obtain ⟨g3, e_⟩ := own_some (P.out.rows.own 3 _ rfl) (by omega)
          subst e_
          have HQ3 := Aside0.mk (show L = qd.length from own_len (P.out.rows.own 3 _ rfl))
          obtain ⟨x3, hx3⟩ : ∃ z, qd.getD y.toNat 0 = z := ⟨_, rfl⟩
          have HX3 := Aside0.mk hx3
          clear hx3
          go_wp2
          refine wp_loop_rounds 5 ?_
          rw [rounds_succ]
          go_wp2
          have b_ : wr.cell? ⟨b, 1, none⟩ = some (.slice (some ⟨g0, 0, none⟩) L c_0) := P.out.at_.2 1 _ rfl
          have o_ : wr.ownsRow w.heap.size 22 1 (.slice (some ⟨g0, 0, none⟩) L c_0) qa.length (nums .u64 qa) := P.out.rows.own 0 _ rfl
          have w_ : wr.cell? ⟨g0, y.toNat, none⟩ = some (.int .u64 x0) := (own_word o_ y p (by have := HQ0.out; omega)).trans (by rw [HX0.out])
          clear o_
          refine start_ (n := 20) (S := fun w' => w'.cell? ⟨b, 1, none⟩ = some (.slice (some ⟨g0, 0, none⟩) L c_0) ∧ w'.cell? ⟨g0, y.toNat, none⟩ = some (.int .u64 x0)) (ds := [18]) #[false, false, false, false, false, false, false, false, false, false, false, false, false, false, false, false, false, false, false, false] (by kernel_rfl) rfl rfl ⟨b_, w_⟩ (fun hHeld => ?_)
          have P2 := P.out.on (below_drew (Below.refl wr.heap.size wr))
          clear P b_ w_
          have P := Aside0.mk P2
          clear P2
          generalize wr.drew = z0 at P hHeld ⊢
          refine pure_ (i := 0) (N := (some 56)) (v := ?_) (a' := ?_) #[true, false, false, false, false, false, false, false, false, false, false, false, false, false, false, false, false, false, false, false] rfl rfl (by kernel_rfl) (fun _ _ _ h => h) (Or.inl ⟨by rfl, ?_⟩) ?_ ?_
          rotate_left
          · intro w'
            go_simp
            with_reducible rfl
          rotate_left
          · simp only [Act.put, List.setIfInBounds_toArray, List.set_cons_zero, List.set_cons_succ, i64_w, i32_w]
            rfl
          refine pure_ (i := 1) (N := (some 57)) (v := ?_) (a' := ?_) #[true, true, false, false, false, false, false, false, false, false, false, false, false, false, false, false, false, false, false, false] rfl rfl (by kernel_rfl) (fun _ _ _ h => h) (Or.inl ⟨by rfl, ?_⟩) ?_ ?_
          rotate_left
          · intro w'
            go_simp
            with_reducible rfl
          rotate_left
          · simp only [Act.put, List.setIfInBounds_toArray, List.set_cons_zero, List.set_cons_succ, i64_w, i32_w]
            rfl
          refine pure_ (i := 2) (N := (some 58)) (v := ?_) (a' := ?_) #[true, true, true, false, false, false, false, false, false, false, false, false, false, false, false, false, false, false, false, false] rfl rfl (by kernel_rfl) (fun _ _ _ h => h) (Or.inl ⟨by rfl, ?_⟩) ?_ ?_
          rotate_left
          · intro w'
            go_simp
            with_reducible rfl
          rotate_left
          · simp only [Act.put, List.setIfInBounds_toArray, List.set_cons_zero, List.set_cons_succ, i64_w, i32_w]
            rfl
          refine take_ (i := 3) (N := (some 59)) (v := ?_) (a' := ?_) #[true, true, true, true, false, false, false, false, false, false, false, false, false, false, false, false, false, false, false, false] rfl rfl (by kernel_rfl) (fun _ _ _ h => h) (Or.inl ⟨by rfl, ?_⟩) hHeld ?_ ?_
          rotate_left
          · rintro w' ⟨s0, s1⟩
            go_simp
            with_reducible rfl
          rotate_left
          · simp only [Act.put, List.setIfInBounds_toArray, List.set_cons_zero, List.set_cons_succ, i64_w, i32_w]
            rfl
          refine pure_ (i := 4) (N := (some 60)) (v := ?_) (a' := ?_) #[true, true, true, true, true, false, false, false, false, false, false, false, false, false, false, false, false, false, false, false] rfl rfl (by kernel_rfl) (fun _ _ _ h => h) (Or.inl ⟨by rfl, ?_⟩) ?_ ?_
          rotate_left
          · intro w'
            go_simp
            with_reducible rfl
          rotate_left
          · simp only [Act.put, List.setIfInBounds_toArray, List.set_cons_zero, List.set_cons_succ, i64_w, i32_w]
            rfl
          refine pure_ (i := 5) (N := (some 61)) (v := ?_) (a' := ?_) #[true, true, true, true, true, true, false, false, false, false, false, false, false, false, false, false, false, false, false, false] rfl rfl (by kernel_rfl) (fun _ _ _ h => h) (Or.inl ⟨by rfl, ?_⟩) ?_ ?_
          rotate_left
          · intro w'
            go_simp
            with_reducible rfl
          rotate_left
          · simp only [Act.put, List.setIfInBounds_toArray, List.set_cons_zero, List.set_cons_succ, i64_w, i32_w]
            rfl
          refine pure_ (i := 6) (N := (some 62)) (v := ?_) (a' := ?_) #[true, true, true, true, true, true, true, false, false, false, false, false, false, false, false, false, false, false, false, false] rfl rfl (by kernel_rfl) (fun _ _ _ h => h) (Or.inl ⟨by rfl, ?_⟩) ?_ ?_
          rotate_left
          · intro w'
            go_simp
            with_reducible rfl
          rotate_left
          · simp only [Act.put, List.setIfInBounds_toArray, List.set_cons_zero, List.set_cons_succ, i64_w, i32_w]
            rfl
          refine pure_ (i := 7) (N := (some 63)) (v := ?_) (a' := ?_) #[true, true, true, true, true, true, true, true, false, false, false, false, false, false, false, false, false, false, false, false] rfl rfl (by kernel_rfl) (fun _ _ _ h => h) (Or.inl ⟨by rfl, ?_⟩) ?_ ?_
          rotate_left
          · intro w'
            go_simp
            with_reducible rfl
          rotate_left
          · simp only [Act.put, List.setIfInBounds_toArray, List.set_cons_zero, List.set_cons_succ, i64_w, i32_w]
            rfl
          refine take_ (i := 8) (N := (some 64)) (v := ?_) (a' := ?_) #[true, true, true, true, true, true, true, true, true, false, false, false, false, false, false, false, false, false, false, false] rfl rfl (by kernel_rfl) (fun _ _ _ h => h) (Or.inl ⟨by rfl, ?_⟩) hHeld ?_ ?_
          rotate_left
          · rintro w' ⟨s0, s1⟩
            go_simp
            with_reducible rfl
          rotate_left
          · simp only [Act.put, List.setIfInBounds_toArray, List.set_cons_zero, List.set_cons_succ, i64_w, i32_w]
            rfl
          refine pure_ (i := 9) (N := (some 65)) (v := ?_) (a' := ?_) #[true, true, true, true, true, true, true, true, true, true, false, false, false, false, false, false, false, false, false, false] rfl rfl (by kernel_rfl) (fun _ _ _ h => h) (Or.inl ⟨by rfl, ?_⟩) ?_ ?_
          rotate_left
          · intro w'
            go_simp
            with_reducible rfl
          rotate_left
          · simp only [Act.put, List.setIfInBounds_toArray, List.set_cons_zero, List.set_cons_succ, i64_w, i32_w]
            rfl
          refine pure_ (i := 10) (N := (some 66)) (v := ?_) (a' := ?_) #[true, true, true, true, true, true, true, true, true, true, true, false, false, false, false, false, false, false, false, false] rfl rfl (by kernel_rfl) (fun _ _ _ h => h) (Or.inl ⟨by rfl, ?_⟩) ?_ ?_
          rotate_left
          · intro w'
            go_simp
            with_reducible rfl
          rotate_left
          · simp only [Act.put, List.setIfInBounds_toArray, List.set_cons_zero, List.set_cons_succ, i64_w, i32_w]
            rfl
          refine take_ (i := 11) (N := (some 67)) (v := ?_) (a' := ?_) #[true, true, true, true, true, true, true, true, true, true, true, true, false, false, false, false, false, false, false, false] rfl rfl (by kernel_rfl) (fun _ _ _ h => h) (Or.inl ⟨by rfl, ?_⟩) hHeld ?_ ?_
          rotate_left
          · rintro w' ⟨s0, s1⟩
            go_simp
            with_reducible rfl
          rotate_left
          · simp only [Act.put, List.setIfInBounds_toArray, List.set_cons_zero, List.set_cons_succ, i64_w, i32_w]
            rfl
          refine pure_ (i := 12) (N := (some 68)) (v := ?_) (a' := ?_) #[true, true, true, true, true, true, true, true, true, true, true, true, true, false, false, false, false, false, false, false] rfl rfl (by kernel_rfl) (fun _ _ _ h => h) (Or.inl ⟨by rfl, ?_⟩) ?_ ?_
          rotate_left
          · intro w'
            go_simp
            with_reducible rfl
          rotate_left
          · simp only [Act.put, List.setIfInBounds_toArray, List.set_cons_zero, List.set_cons_succ, i64_w, i32_w]
            rfl
          refine one_ (i := 13) (N := (some 69)) #[true, true, true, true, true, true, true, true, true, true, true, true, true, true, false, false, false, false, false, false] rfl rfl (by kernel_rfl) (by decide) (fun K hK => ?_)
          refine goes_ Try.func14 (by kernel_rfl) rfl #[.int .u64 x0, .int .u64 wd] (by rfl) rfl rfl (by (try simp only [List.map_toArray, List.map_cons, List.map_nil]); first | done | rfl) ?_
          with_reducible refine (words_Half.calls x0 wd (Go.bits .xor .u64 x0 wd) (Go.bits .and .u64 x0 wd) _ rfl).mono ?_
          rintro er_ z0' ⟨rfl, ⟨nd_, rfl⟩⟩
          refine ⟨_, rfl, ?_⟩
          have P2 := P.out.on (pw_below_drewN (Below.refl z0.heap.size z0) nd_)
          refine hK.out _ _ ⟨P2.at_.2 1 _ rfl, (own_word (show (z0.drewN nd_).ownsRow w.heap.size 22 1 (.slice (some ⟨g0, 0, none⟩) L c_0) qa.length (nums .u64 qa) from P2.rows.own 0 _ rfl) y p (by have := HQ0.out; omega)).trans (by rw [HX0.out])⟩ (fun hHeld => ?_)
          clear hK K P
          have P := Aside0.mk P2
          clear P2
          generalize z0.drewN nd_ = y0 at P hHeld ⊢
          obtain ⟨x_k0, hk0⟩ : ∃ q, Go.bits .xor .u64 x0 wd = q := ⟨_, rfl⟩
          obtain ⟨k1, hc0⟩ : ∃ q, Go.bits .and .u64 x0 wd = q := ⟨_, rfl⟩
          rw [hk0, hc0]
          have HK0 := Aside0.mk hk0
          have HC0' := Aside0.mk hc0
          clear hk0 hc0
          refine pure_ (i := 14) (N := (some 55)) (v := ?_) (a' := ?_) #[true, true, true, true, true, true, true, true, true, true, true, true, true, true, true, false, false, false, false, false] rfl rfl (by kernel_rfl) (fun _ _ _ h => h) (Or.inl ⟨by rfl, ?_⟩) ?_ ?_
          rotate_left
          · intro w'
            go_simp
            with_reducible rfl
          rotate_left
          · simp only [Act.put, List.setIfInBounds_toArray, List.set_cons_zero, List.set_cons_succ, i64_w, i32_w]
            rfl
          refine pure_ (i := 15) (N := (some 70)) (v := ?_) (a' := ?_) #[true, true, true, true, true, true, true, true, true, true, true, true, true, true, true, true, false, false, false, false] rfl rfl (by kernel_rfl) (fun _ _ _ h => h) (Or.inl ⟨by rfl, ?_⟩) ?_ ?_
          rotate_left
          · intro w'
            go_simp
            with_reducible rfl
          rotate_left
          · simp only [Act.put, List.setIfInBounds_toArray, List.set_cons_zero, List.set_cons_succ, i64_w, i32_w]
            rfl
          refine pure_ (i := 16) (N := (some 71)) (v := ?_) (a' := ?_) #[true, true, true, true, true, true, true, true, true, true, true, true, true, true, true, true, true, false, false, false] rfl rfl (by kernel_rfl) (fun _ _ _ h => h) (Or.inl ⟨by rfl, ?_⟩) ?_ ?_
          rotate_left
          · intro w'
            go_simp
            with_reducible rfl
          rotate_left
          · simp only [Act.put, List.setIfInBounds_toArray, List.set_cons_zero, List.set_cons_succ, i64_w, i32_w]
            rfl
          refine pure_ (i := 17) (N := (some 72)) (v := ?_) (a' := ?_) #[true, true, true, true, true, true, true, true, true, true, true, true, true, true, true, true, true, true, false, false] rfl rfl (by kernel_rfl) (fun _ _ _ h => h) (Or.inl ⟨by rfl, ?_⟩) ?_ ?_
          rotate_left
          · intro w'
            go_simp
            with_reducible rfl
          rotate_left
          · simp only [Act.put, List.setIfInBounds_toArray, List.set_cons_zero, List.set_cons_succ, i64_w, i32_w]
            rfl
          refine last_ (i := 18) (N := none) #[true, true, true, true, true, true, true, true, true, true, true, true, true, true, true, true, true, true, true, false] rfl rfl (by kernel_rfl) (by decide) (fun K hK => ?_)
          have c_ := hHeld.2
          have f_ := own_frozen (P.out.rows.own 0 _ rfl) y.toNat
          refine skip_ (w1 := y0.setCell ⟨g0, y.toNat, none⟩ (.int .u64 x_k0)) (by rfl) rfl ?_ ?_
          · first | (go_simp; done) | (go_simp; rfl)
          refine hK.out _ _ ?_
          clear hK K hHeld c_ f_
          refine pure_ (i := 19) (N := (some 11)) (v := ?_) (a' := ?_) #[true, true, true, true, true, true, true, true, true, true, true, true, true, true, true, true, true, true, true, true] rfl rfl (by kernel_rfl) (fun _ _ _ h => h) (Or.inl ⟨by rfl, ?_⟩) ?_ ?_
          rotate_left
          · intro w'
            go_simp
            with_reducible rfl
          rotate_left
          · simp only [Act.put, List.setIfInBounds_toArray, List.set_cons_zero, List.set_cons_succ, i64_w, i32_w]
            rfl
          refine done_ (by kernel_rfl) ?_
          have P2 : CS w _ b r [.int .i64 n, .slice (some ⟨g0, 0, none⟩) L c_0, .int .i64 n, .slice (some ⟨g1, 0, none⟩) L c_1, .int .i64 n, .slice (some ⟨g2, 0, none⟩) L c_2, .int .i64 n, .slice (some ⟨g3, 0, none⟩) L c_3] [(.slice (some ⟨g0, 0, none⟩) L c_0, qa.set y.toNat x_k0), (.slice (some ⟨g1, 0, none⟩) L c_1, qb), (.slice (some ⟨g2, 0, none⟩) L c_2, qc), (.slice (some ⟨g3, 0, none⟩) L c_3, qd)] := P.out.word (j := 0) rfl (by have := HQ0.out; omega) y.toNat x_k0
          clear P
          have P := Aside0.mk P2
          clear P2
          generalize World.setCell _ _ _ = s0 at P ⊢
          go_wp2
          rw [rounds_succ]
          go_wp2
          have b_ : s0.cell? ⟨b, 3, none⟩ = some (.slice (some ⟨g1, 0, none⟩) L c_1) := P.out.at_.2 3 _ rfl
          have o_ : s0.ownsRow w.heap.size 22 1 (.slice (some ⟨g1, 0, none⟩) L c_1) qb.length (nums .u64 qb) := P.out.rows.own 1 _ rfl
          have w_ : s0.cell? ⟨g1, y.toNat, none⟩ = some (.int .u64 x1) := (own_word o_ y p (by have := HQ1.out; omega)).trans (by rw [HX1.out])
          clear o_
          refine start_ (n := 20) (S := fun w' => w'.cell? ⟨b, 3, none⟩ = some (.slice (some ⟨g1, 0, none⟩) L c_1) ∧ w'.cell? ⟨g1, y.toNat, none⟩ = some (.int .u64 x1)) (ds := [18]) #[false, false, false, false, false, false, false, false, false, false, false, false, false, false, false, false, false, false, false, false] (by kernel_rfl) rfl rfl ⟨b_, w_⟩ (fun hHeld => ?_)
          have P2 := P.out.on (below_drew (Below.refl s0.heap.size s0))
          clear P b_ w_
          have P := Aside0.mk P2
          clear P2
          generalize s0.drew = z1 at P hHeld ⊢
          refine pure_ (i := 0) (N := (some 56)) (v := ?_) (a' := ?_) #[true, false, false, false, false, false, false, false, false, false, false, false, false, false, false, false, false, false, false, false] rfl rfl (by kernel_rfl) (fun _ _ _ h => h) (Or.inl ⟨by rfl, ?_⟩) ?_ ?_
          rotate_left
          · intro w'
            go_simp
            with_reducible rfl
          rotate_left
          · simp only [Act.put, List.setIfInBounds_toArray, List.set_cons_zero, List.set_cons_succ, i64_w, i32_w]
            rfl
          refine pure_ (i := 1) (N := (some 57)) (v := ?_) (a' := ?_) #[true, true, false, false, false, false, false, false, false, false, false, false, false, false, false, false, false, false, false, false] rfl rfl (by kernel_rfl) (fun _ _ _ h => h) (Or.inl ⟨by rfl, ?_⟩) ?_ ?_
          rotate_left
          · intro w'
            go_simp
            with_reducible rfl
          rotate_left
          · simp only [Act.put, List.setIfInBounds_toArray, List.set_cons_zero, List.set_cons_succ, i64_w, i32_w]
            rfl
          refine pure_ (i := 2) (N := (some 58)) (v := ?_) (a' := ?_) #[true, true, true, false, false, false, false, false, false, false, false, false, false, false, false, false, false, false, false, false] rfl rfl (by kernel_rfl) (fun _ _ _ h => h) (Or.inl ⟨by rfl, ?_⟩) ?_ ?_
          rotate_left
          · intro w'
            go_simp
            with_reducible rfl
          rotate_left
          · simp only [Act.put, List.setIfInBounds_toArray, List.set_cons_zero, List.set_cons_succ, i64_w, i32_w]
            rfl
          refine take_ (i := 3) (N := (some 59)) (v := ?_) (a' := ?_) #[true, true, true, true, false, false, false, false, false, false, false, false, false, false, false, false, false, false, false, false] rfl rfl (by kernel_rfl) (fun _ _ _ h => h) (Or.inl ⟨by rfl, ?_⟩) hHeld ?_ ?_
          rotate_left
          · rintro w' ⟨s0, s1⟩
            go_simp
            with_reducible rfl
          rotate_left
          · simp only [Act.put, List.setIfInBounds_toArray, List.set_cons_zero, List.set_cons_succ, i64_w, i32_w]
            rfl
          refine pure_ (i := 4) (N := (some 60)) (v := ?_) (a' := ?_) #[true, true, true, true, true, false, false, false, false, false, false, false, false, false, false, false, false, false, false, false] rfl rfl (by kernel_rfl) (fun _ _ _ h => h) (Or.inl ⟨by rfl, ?_⟩) ?_ ?_
          rotate_left
          · intro w'
            go_simp
            with_reducible rfl
          rotate_left
          · simp only [Act.put, List.setIfInBounds_toArray, List.set_cons_zero, List.set_cons_succ, i64_w, i32_w]
            rfl
          refine pure_ (i := 5) (N := (some 61)) (v := ?_) (a' := ?_) #[true, true, true, true, true, true, false, false, false, false, false, false, false, false, false, false, false, false, false, false] rfl rfl (by kernel_rfl) (fun _ _ _ h => h) (Or.inl ⟨by rfl, ?_⟩) ?_ ?_
          rotate_left
          · intro w'
            go_simp
            with_reducible rfl
          rotate_left
          · simp only [Act.put, List.setIfInBounds_toArray, List.set_cons_zero, List.set_cons_succ, i64_w, i32_w]
            rfl
          refine pure_ (i := 6) (N := (some 62)) (v := ?_) (a' := ?_) #[true, true, true, true, true, true, true, false, false, false, false, false, false, false, false, false, false, false, false, false] rfl rfl (by kernel_rfl) (fun _ _ _ h => h) (Or.inl ⟨by rfl, ?_⟩) ?_ ?_
          rotate_left
          · intro w'
            go_simp
            with_reducible rfl
          rotate_left
          · simp only [Act.put, List.setIfInBounds_toArray, List.set_cons_zero, List.set_cons_succ, i64_w, i32_w]
            rfl
          refine pure_ (i := 7) (N := (some 63)) (v := ?_) (a' := ?_) #[true, true, true, true, true, true, true, true, false, false, false, false, false, false, false, false, false, false, false, false] rfl rfl (by kernel_rfl) (fun _ _ _ h => h) (Or.inl ⟨by rfl, ?_⟩) ?_ ?_
          rotate_left
          · intro w'
            go_simp
            with_reducible rfl
          rotate_left
          · simp only [Act.put, List.setIfInBounds_toArray, List.set_cons_zero, List.set_cons_succ, i64_w, i32_w]
            rfl
          refine take_ (i := 8) (N := (some 64)) (v := ?_) (a' := ?_) #[true, true, true, true, true, true, true, true, true, false, false, false, false, false, false, false, false, false, false, false] rfl rfl (by kernel_rfl) (fun _ _ _ h => h) (Or.inl ⟨by rfl, ?_⟩) hHeld ?_ ?_
          rotate_left
          · rintro w' ⟨s0, s1⟩
            go_simp
            with_reducible rfl
          rotate_left
          · simp only [Act.put, List.setIfInBounds_toArray, List.set_cons_zero, List.set_cons_succ, i64_w, i32_w]
            rfl
          refine pure_ (i := 9) (N := (some 65)) (v := ?_) (a' := ?_) #[true, true, true, true, true, true, true, true, true, true, false, false, false, false, false, false, false, false, false, false] rfl rfl (by kernel_rfl) (fun _ _ _ h => h) (Or.inl ⟨by rfl, ?_⟩) ?_ ?_
          rotate_left
          · intro w'
            go_simp
            with_reducible rfl
          rotate_left
          · simp only [Act.put, List.setIfInBounds_toArray, List.set_cons_zero, List.set_cons_succ, i64_w, i32_w]
            rfl
          refine pure_ (i := 10) (N := (some 66)) (v := ?_) (a' := ?_) #[true, true, true, true, true, true, true, true, true, true, true, false, false, false, false, false, false, false, false, false] rfl rfl (by kernel_rfl) (fun _ _ _ h => h) (Or.inl ⟨by rfl, ?_⟩) ?_ ?_
          rotate_left
          · intro w'
            go_simp
            with_reducible rfl
          rotate_left
          · simp only [Act.put, List.setIfInBounds_toArray, List.set_cons_zero, List.set_cons_succ, i64_w, i32_w]
            rfl
          refine take_ (i := 11) (N := (some 67)) (v := ?_) (a' := ?_) #[true, true, true, true, true, true, true, true, true, true, true, true, false, false, false, false, false, false, false, false] rfl rfl (by kernel_rfl) (fun _ _ _ h => h) (Or.inl ⟨by rfl, ?_⟩) hHeld ?_ ?_
          rotate_left
          · rintro w' ⟨s0, s1⟩
            go_simp
            with_reducible rfl
          rotate_left
          · simp only [Act.put, List.setIfInBounds_toArray, List.set_cons_zero, List.set_cons_succ, i64_w, i32_w]
            rfl
          refine pure_ (i := 12) (N := (some 68)) (v := ?_) (a' := ?_) #[true, true, true, true, true, true, true, true, true, true, true, true, true, false, false, false, false, false, false, false] rfl rfl (by kernel_rfl) (fun _ _ _ h => h) (Or.inl ⟨by rfl, ?_⟩) ?_ ?_
          rotate_left
          · intro w'
            go_simp
            with_reducible rfl
          rotate_left
          · simp only [Act.put, List.setIfInBounds_toArray, List.set_cons_zero, List.set_cons_succ, i64_w, i32_w]
            rfl
          refine one_ (i := 13) (N := (some 69)) #[true, true, true, true, true, true, true, true, true, true, true, true, true, true, false, false, false, false, false, false] rfl rfl (by kernel_rfl) (by decide) (fun K hK => ?_)
          refine goes_ Try.func14 (by kernel_rfl) rfl #[.int .u64 x1, .int .u64 k1] (by rfl) rfl rfl (by (try simp only [List.map_toArray, List.map_cons, List.map_nil]); first | done | rfl) ?_
          with_reducible refine (words_Half.calls x1 k1 (Go.bits .xor .u64 x1 k1) (Go.bits .and .u64 x1 k1) _ rfl).mono ?_
          rintro er_ z1' ⟨rfl, ⟨nd_, rfl⟩⟩
          refine ⟨_, rfl, ?_⟩
          have P2 := P.out.on (pw_below_drewN (Below.refl z1.heap.size z1) nd_)
          refine hK.out _ _ ⟨P2.at_.2 3 _ rfl, (own_word (show (z1.drewN nd_).ownsRow w.heap.size 22 1 (.slice (some ⟨g1, 0, none⟩) L c_1) qb.length (nums .u64 qb) from P2.rows.own 1 _ rfl) y p (by have := HQ1.out; omega)).trans (by rw [HX1.out])⟩ (fun hHeld => ?_)
          clear hK K P
          have P := Aside0.mk P2
          clear P2
          generalize z1.drewN nd_ = y1 at P hHeld ⊢
          obtain ⟨x_k1, hk1⟩ : ∃ q, Go.bits .xor .u64 x1 k1 = q := ⟨_, rfl⟩
          obtain ⟨k2, hc1⟩ : ∃ q, Go.bits .and .u64 x1 k1 = q := ⟨_, rfl⟩
          rw [hk1, hc1]
          have HK1 := Aside0.mk hk1
          have HC1' := Aside0.mk hc1
          clear hk1 hc1
          refine pure_ (i := 14) (N := (some 55)) (v := ?_) (a' := ?_) #[true, true, true, true, true, true, true, true, true, true, true, true, true, true, true, false, false, false, false, false] rfl rfl (by kernel_rfl) (fun _ _ _ h => h) (Or.inl ⟨by rfl, ?_⟩) ?_ ?_
          rotate_left
          · intro w'
            go_simp
            with_reducible rfl
          rotate_left
          · simp only [Act.put, List.setIfInBounds_toArray, List.set_cons_zero, List.set_cons_succ, i64_w, i32_w]
            rfl
          refine pure_ (i := 15) (N := (some 70)) (v := ?_) (a' := ?_) #[true, true, true, true, true, true, true, true, true, true, true, true, true, true, true, true, false, false, false, false] rfl rfl (by kernel_rfl) (fun _ _ _ h => h) (Or.inl ⟨by rfl, ?_⟩) ?_ ?_
          rotate_left
          · intro w'
            go_simp
            with_reducible rfl
          rotate_left
          · simp only [Act.put, List.setIfInBounds_toArray, List.set_cons_zero, List.set_cons_succ, i64_w, i32_w]
            rfl
          refine pure_ (i := 16) (N := (some 71)) (v := ?_) (a' := ?_) #[true, true, true, true, true, true, true, true, true, true, true, true, true, true, true, true, true, false, false, false] rfl rfl (by kernel_rfl) (fun _ _ _ h => h) (Or.inl ⟨by rfl, ?_⟩) ?_ ?_
          rotate_left
          · intro w'
            go_simp
            with_reducible rfl
          rotate_left
          · simp only [Act.put, List.setIfInBounds_toArray, List.set_cons_zero, List.set_cons_succ, i64_w, i32_w]
            rfl
          refine pure_ (i := 17) (N := (some 72)) (v := ?_) (a' := ?_) #[true, true, true, true, true, true, true, true, true, true, true, true, true, true, true, true, true, true, false, false] rfl rfl (by kernel_rfl) (fun _ _ _ h => h) (Or.inl ⟨by rfl, ?_⟩) ?_ ?_
          rotate_left
          · intro w'
            go_simp
            with_reducible rfl
          rotate_left
          · simp only [Act.put, List.setIfInBounds_toArray, List.set_cons_zero, List.set_cons_succ, i64_w, i32_w]
            rfl
          refine last_ (i := 18) (N := none) #[true, true, true, true, true, true, true, true, true, true, true, true, true, true, true, true, true, true, true, false] rfl rfl (by kernel_rfl) (by decide) (fun K hK => ?_)
          have c_ := hHeld.2
          have f_ := own_frozen (P.out.rows.own 1 _ rfl) y.toNat
          refine skip_ (w1 := y1.setCell ⟨g1, y.toNat, none⟩ (.int .u64 x_k1)) (by rfl) rfl ?_ ?_
          · first | (go_simp; done) | (go_simp; rfl)
          refine hK.out _ _ ?_
          clear hK K hHeld c_ f_
          refine pure_ (i := 19) (N := (some 11)) (v := ?_) (a' := ?_) #[true, true, true, true, true, true, true, true, true, true, true, true, true, true, true, true, true, true, true, true] rfl rfl (by kernel_rfl) (fun _ _ _ h => h) (Or.inl ⟨by rfl, ?_⟩) ?_ ?_
          rotate_left
          · intro w'
            go_simp
            with_reducible rfl
          rotate_left
          · simp only [Act.put, List.setIfInBounds_toArray, List.set_cons_zero, List.set_cons_succ, i64_w, i32_w]
            rfl
          refine done_ (by kernel_rfl) ?_
          have P2 : CS w _ b r [.int .i64 n, .slice (some ⟨g0, 0, none⟩) L c_0, .int .i64 n, .slice (some ⟨g1, 0, none⟩) L c_1, .int .i64 n, .slice (some ⟨g2, 0, none⟩) L c_2, .int .i64 n, .slice (some ⟨g3, 0, none⟩) L c_3] [(.slice (some ⟨g0, 0, none⟩) L c_0, qa.set y.toNat x_k0), (.slice (some ⟨g1, 0, none⟩) L c_1, qb.set y.toNat x_k1), (.slice (some ⟨g2, 0, none⟩) L c_2, qc), (.slice (some ⟨g3, 0, none⟩) L c_3, qd)] := P.out.word (j := 1) rfl (by have := HQ1.out; omega) y.toNat x_k1
          clear P
          have P := Aside0.mk P2
          clear P2
          generalize World.setCell _ _ _ = s1 at P ⊢
          go_wp2
          rw [rounds_succ]
          go_wp2
          have b_ : s1.cell? ⟨b, 5, none⟩ = some (.slice (some ⟨g2, 0, none⟩) L c_2) := P.out.at_.2 5 _ rfl
          have o_ : s1.ownsRow w.heap.size 22 1 (.slice (some ⟨g2, 0, none⟩) L c_2) qc.length (nums .u64 qc) := P.out.rows.own 2 _ rfl
          have w_ : s1.cell? ⟨g2, y.toNat, none⟩ = some (.int .u64 x2) := (own_word o_ y p (by have := HQ2.out; omega)).trans (by rw [HX2.out])
          clear o_
          refine start_ (n := 20) (S := fun w' => w'.cell? ⟨b, 5, none⟩ = some (.slice (some ⟨g2, 0, none⟩) L c_2) ∧ w'.cell? ⟨g2, y.toNat, none⟩ = some (.int .u64 x2)) (ds := [18]) #[false, false, false, false, false, false, false, false, false, false, false, false, false, false, false, false, false, false, false, false] (by kernel_rfl) rfl rfl ⟨b_, w_⟩ (fun hHeld => ?_)
          have P2 := P.out.on (below_drew (Below.refl s1.heap.size s1))
          clear P b_ w_
          have P := Aside0.mk P2
          clear P2
          generalize s1.drew = z2 at P hHeld ⊢
          refine pure_ (i := 0) (N := (some 56)) (v := ?_) (a' := ?_) #[true, false, false, false, false, false, false, false, false, false, false, false, false, false, false, false, false, false, false, false] rfl rfl (by kernel_rfl) (fun _ _ _ h => h) (Or.inl ⟨by rfl, ?_⟩) ?_ ?_
          rotate_left
          · intro w'
            go_simp
            with_reducible rfl
          rotate_left
          · simp only [Act.put, List.setIfInBounds_toArray, List.set_cons_zero, List.set_cons_succ, i64_w, i32_w]
            rfl
          refine pure_ (i := 1) (N := (some 57)) (v := ?_) (a' := ?_) #[true, true, false, false, false, false, false, false, false, false, false, false, false, false, false, false, false, false, false, false] rfl rfl (by kernel_rfl) (fun _ _ _ h => h) (Or.inl ⟨by rfl, ?_⟩) ?_ ?_
          rotate_left
          · intro w'
            go_simp
            with_reducible rfl
          rotate_left
          · simp only [Act.put, List.setIfInBounds_toArray, List.set_cons_zero, List.set_cons_succ, i64_w, i32_w]
            rfl
          refine pure_ (i := 2) (N := (some 58)) (v := ?_) (a' := ?_) #[true, true, true, false, false, false, false, false, false, false, false, false, false, false, false, false, false, false, false, false] rfl rfl (by kernel_rfl) (fun _ _ _ h => h) (Or.inl ⟨by rfl, ?_⟩) ?_ ?_
          rotate_left
          · intro w'
            go_simp
            with_reducible rfl
          rotate_left
          · simp only [Act.put, List.setIfInBounds_toArray, List.set_cons_zero, List.set_cons_succ, i64_w, i32_w]
            rfl
          refine take_ (i := 3) (N := (some 59)) (v := ?_) (a' := ?_) #[true, true, true, true, false, false, false, false, false, false, false, false, false, false, false, false, false, false, false, false] rfl rfl (by kernel_rfl) (fun _ _ _ h => h) (Or.inl ⟨by rfl, ?_⟩) hHeld ?_ ?_
          rotate_left
          · rintro w' ⟨s0, s1⟩
            go_simp
            with_reducible rfl
          rotate_left
          · simp only [Act.put, List.setIfInBounds_toArray, List.set_cons_zero, List.set_cons_succ, i64_w, i32_w]
            rfl
          refine pure_ (i := 4) (N := (some 60)) (v := ?_) (a' := ?_) #[true, true, true, true, true, false, false, false, false, false, false, false, false, false, false, false, false, false, false, false] rfl rfl (by kernel_rfl) (fun _ _ _ h => h) (Or.inl ⟨by rfl, ?_⟩) ?_ ?_
          rotate_left
          · intro w'
            go_simp
            with_reducible rfl
          rotate_left
          · simp only [Act.put, List.setIfInBounds_toArray, List.set_cons_zero, List.set_cons_succ, i64_w, i32_w]
            rfl
          refine pure_ (i := 5) (N := (some 61)) (v := ?_) (a' := ?_) #[true, true, true, true, true, true, false, false, false, false, false, false, false, false, false, false, false, false, false, false] rfl rfl (by kernel_rfl) (fun _ _ _ h => h) (Or.inl ⟨by rfl, ?_⟩) ?_ ?_
          rotate_left
          · intro w'
            go_simp
            with_reducible rfl
          rotate_left
          · simp only [Act.put, List.setIfInBounds_toArray, List.set_cons_zero, List.set_cons_succ, i64_w, i32_w]
            rfl
          refine pure_ (i := 6) (N := (some 62)) (v := ?_) (a' := ?_) #[true, true, true, true, true, true, true, false, false, false, false, false, false, false, false, false, false, false, false, false] rfl rfl (by kernel_rfl) (fun _ _ _ h => h) (Or.inl ⟨by rfl, ?_⟩) ?_ ?_
          rotate_left
          · intro w'
            go_simp
            with_reducible rfl
          rotate_left
          · simp only [Act.put, List.setIfInBounds_toArray, List.set_cons_zero, List.set_cons_succ, i64_w, i32_w]
            rfl
          refine pure_ (i := 7) (N := (some 63)) (v := ?_) (a' := ?_) #[true, true, true, true, true, true, true, true, false, false, false, false, false, false, false, false, false, false, false, false] rfl rfl (by kernel_rfl) (fun _ _ _ h => h) (Or.inl ⟨by rfl, ?_⟩) ?_ ?_
          rotate_left
          · intro w'
            go_simp
            with_reducible rfl
          rotate_left
          · simp only [Act.put, List.setIfInBounds_toArray, List.set_cons_zero, List.set_cons_succ, i64_w, i32_w]
            rfl
          refine take_ (i := 8) (N := (some 64)) (v := ?_) (a' := ?_) #[true, true, true, true, true, true, true, true, true, false, false, false, false, false, false, false, false, false, false, false] rfl rfl (by kernel_rfl) (fun _ _ _ h => h) (Or.inl ⟨by rfl, ?_⟩) hHeld ?_ ?_
          rotate_left
          · rintro w' ⟨s0, s1⟩
            go_simp
            with_reducible rfl
          rotate_left
          · simp only [Act.put, List.setIfInBounds_toArray, List.set_cons_zero, List.set_cons_succ, i64_w, i32_w]
            rfl
          refine pure_ (i := 9) (N := (some 65)) (v := ?_) (a' := ?_) #[true, true, true, true, true, true, true, true, true, true, false, false, false, false, false, false, false, false, false, false] rfl rfl (by kernel_rfl) (fun _ _ _ h => h) (Or.inl ⟨by rfl, ?_⟩) ?_ ?_
          rotate_left
          · intro w'
            go_simp
            with_reducible rfl
          rotate_left
          · simp only [Act.put, List.setIfInBounds_toArray, List.set_cons_zero, List.set_cons_succ, i64_w, i32_w]
            rfl
          refine pure_ (i := 10) (N := (some 66)) (v := ?_) (a' := ?_) #[true, true, true, true, true, true, true, true, true, true, true, false, false, false, false, false, false, false, false, false] rfl rfl (by kernel_rfl) (fun _ _ _ h => h) (Or.inl ⟨by rfl, ?_⟩) ?_ ?_
          rotate_left
          · intro w'
            go_simp
            with_reducible rfl
          rotate_left
          · simp only [Act.put, List.setIfInBounds_toArray, List.set_cons_zero, List.set_cons_succ, i64_w, i32_w]
            rfl
          refine take_ (i := 11) (N := (some 67)) (v := ?_) (a' := ?_) #[true, true, true, true, true, true, true, true, true, true, true, true, false, false, false, false, false, false, false, false] rfl rfl (by kernel_rfl) (fun _ _ _ h => h) (Or.inl ⟨by rfl, ?_⟩) hHeld ?_ ?_
          rotate_left
          · rintro w' ⟨s0, s1⟩
            go_simp
            with_reducible rfl
          rotate_left
          · simp only [Act.put, List.setIfInBounds_toArray, List.set_cons_zero, List.set_cons_succ, i64_w, i32_w]
            rfl
          refine pure_ (i := 12) (N := (some 68)) (v := ?_) (a' := ?_) #[true, true, true, true, true, true, true, true, true, true, true, true, true, false, false, false, false, false, false, false] rfl rfl (by kernel_rfl) (fun _ _ _ h => h) (Or.inl ⟨by rfl, ?_⟩) ?_ ?_
          rotate_left
          · intro w'
            go_simp
            with_reducible rfl
          rotate_left
          · simp only [Act.put, List.setIfInBounds_toArray, List.set_cons_zero, List.set_cons_succ, i64_w, i32_w]
            rfl
          refine one_ (i := 13) (N := (some 69)) #[true, true, true, true, true, true, true, true, true, true, true, true, true, true, false, false, false, false, false, false] rfl rfl (by kernel_rfl) (by decide) (fun K hK => ?_)
          refine goes_ Try.func14 (by kernel_rfl) rfl #[.int .u64 x2, .int .u64 k2] (by rfl) rfl rfl (by (try simp only [List.map_toArray, List.map_cons, List.map_nil]); first | done | rfl) ?_
          with_reducible refine (words_Half.calls x2 k2 (Go.bits .xor .u64 x2 k2) (Go.bits .and .u64 x2 k2) _ rfl).mono ?_
          rintro er_ z2' ⟨rfl, ⟨nd_, rfl⟩⟩
          refine ⟨_, rfl, ?_⟩
          have P2 := P.out.on (pw_below_drewN (Below.refl z2.heap.size z2) nd_)
          refine hK.out _ _ ⟨P2.at_.2 5 _ rfl, (own_word (show (z2.drewN nd_).ownsRow w.heap.size 22 1 (.slice (some ⟨g2, 0, none⟩) L c_2) qc.length (nums .u64 qc) from P2.rows.own 2 _ rfl) y p (by have := HQ2.out; omega)).trans (by rw [HX2.out])⟩ (fun hHeld => ?_)
          clear hK K P
          have P := Aside0.mk P2
          clear P2
          generalize z2.drewN nd_ = y2 at P hHeld ⊢
          obtain ⟨x_k2, hk2⟩ : ∃ q, Go.bits .xor .u64 x2 k2 = q := ⟨_, rfl⟩
          obtain ⟨k3, hc2⟩ : ∃ q, Go.bits .and .u64 x2 k2 = q := ⟨_, rfl⟩
          rw [hk2, hc2]
          have HK2 := Aside0.mk hk2
          have HC2' := Aside0.mk hc2
          clear hk2 hc2
          refine pure_ (i := 14) (N := (some 55)) (v := ?_) (a' := ?_) #[true, true, true, true, true, true, true, true, true, true, true, true, true, true, true, false, false, false, false, false] rfl rfl (by kernel_rfl) (fun _ _ _ h => h) (Or.inl ⟨by rfl, ?_⟩) ?_ ?_
          rotate_left
          · intro w'
            go_simp
            with_reducible rfl
          rotate_left
          · simp only [Act.put, List.setIfInBounds_toArray, List.set_cons_zero, List.set_cons_succ, i64_w, i32_w]
            rfl
          refine pure_ (i := 15) (N := (some 70)) (v := ?_) (a' := ?_) #[true, true, true, true, true, true, true, true, true, true, true, true, true, true, true, true, false, false, false, false] rfl rfl (by kernel_rfl) (fun _ _ _ h => h) (Or.inl ⟨by rfl, ?_⟩) ?_ ?_
          rotate_left
          · intro w'
            go_simp
            with_reducible rfl
          rotate_left
          · simp only [Act.put, List.setIfInBounds_toArray, List.set_cons_zero, List.set_cons_succ, i64_w, i32_w]
            rfl
          refine pure_ (i := 16) (N := (some 71)) (v := ?_) (a' := ?_) #[true, true, true, true, true, true, true, true, true, true, true, true, true, true, true, true, true, false, false, false] rfl rfl (by kernel_rfl) (fun _ _ _ h => h) (Or.inl ⟨by rfl, ?_⟩) ?_ ?_
          rotate_left
          · intro w'
            go_simp
            with_reducible rfl
          rotate_left
          · simp only [Act.put, List.setIfInBounds_toArray, List.set_cons_zero, List.set_cons_succ, i64_w, i32_w]
            rfl
          refine pure_ (i := 17) (N := (some 72)) (v := ?_) (a' := ?_) #[true, true, true, true, true, true, true, true, true, true, true, true, true, true, true, true, true, true, false, false] rfl rfl (by kernel_rfl) (fun _ _ _ h => h) (Or.inl ⟨by rfl, ?_⟩) ?_ ?_
          rotate_left
          · intro w'
            go_simp
            with_reducible rfl
          rotate_left
          · simp only [Act.put, List.setIfInBounds_toArray, List.set_cons_zero, List.set_cons_succ, i64_w, i32_w]
            rfl
          refine last_ (i := 18) (N := none) #[true, true, true, true, true, true, true, true, true, true, true, true, true, true, true, true, true, true, true, false] rfl rfl (by kernel_rfl) (by decide) (fun K hK => ?_)
          have c_ := hHeld.2
          have f_ := own_frozen (P.out.rows.own 2 _ rfl) y.toNat
          refine skip_ (w1 := y2.setCell ⟨g2, y.toNat, none⟩ (.int .u64 x_k2)) (by rfl) rfl ?_ ?_
          · first | (go_simp; done) | (go_simp; rfl)
          refine hK.out _ _ ?_
          clear hK K hHeld c_ f_
          refine pure_ (i := 19) (N := (some 11)) (v := ?_) (a' := ?_) #[true, true, true, true, true, true, true, true, true, true, true, true, true, true, true, true, true, true, true, true] rfl rfl (by kernel_rfl) (fun _ _ _ h => h) (Or.inl ⟨by rfl, ?_⟩) ?_ ?_
          rotate_left
          · intro w'
            go_simp
            with_reducible rfl
          rotate_left
          · simp only [Act.put, List.setIfInBounds_toArray, List.set_cons_zero, List.set_cons_succ, i64_w, i32_w]
            rfl
          refine done_ (by kernel_rfl) ?_
          have P2 : CS w _ b r [.int .i64 n, .slice (some ⟨g0, 0, none⟩) L c_0, .int .i64 n, .slice (some ⟨g1, 0, none⟩) L c_1, .int .i64 n, .slice (some ⟨g2, 0, none⟩) L c_2, .int .i64 n, .slice (some ⟨g3, 0, none⟩) L c_3] [(.slice (some ⟨g0, 0, none⟩) L c_0, qa.set y.toNat x_k0), (.slice (some ⟨g1, 0, none⟩) L c_1, qb.set y.toNat x_k1), (.slice (some ⟨g2, 0, none⟩) L c_2, qc.set y.toNat x_k2), (.slice (some ⟨g3, 0, none⟩) L c_3, qd)] := P.out.word (j := 2) rfl (by have := HQ2.out; omega) y.toNat x_k2
          clear P
          have P := Aside0.mk P2
          clear P2
          generalize World.setCell _ _ _ = s2 at P ⊢
          go_wp2
          rw [rounds_succ]
          go_wp2
          have b_ : s2.cell? ⟨b, 7, none⟩ = some (.slice (some ⟨g3, 0, none⟩) L c_3) := P.out.at_.2 7 _ rfl
          have o_ : s2.ownsRow w.heap.size 22 1 (.slice (some ⟨g3, 0, none⟩) L c_3) qd.length (nums .u64 qd) := P.out.rows.own 3 _ rfl
          have w_ : s2.cell? ⟨g3, y.toNat, none⟩ = some (.int .u64 x3) := (own_word o_ y p (by have := HQ3.out; omega)).trans (by rw [HX3.out])
          clear o_
          refine start_ (n := 20) (S := fun w' => w'.cell? ⟨b, 7, none⟩ = some (.slice (some ⟨g3, 0, none⟩) L c_3) ∧ w'.cell? ⟨g3, y.toNat, none⟩ = some (.int .u64 x3)) (ds := [18]) #[false, false, false, false, false, false, false, false, false, false, false, false, false, false, false, false, false, false, false, false] (by kernel_rfl) rfl rfl ⟨b_, w_⟩ (fun hHeld => ?_)
          have P2 := P.out.on (below_drew (Below.refl s2.heap.size s2))
          clear P b_ w_
          have P := Aside0.mk P2
          clear P2
          generalize s2.drew = z3 at P hHeld ⊢
          refine pure_ (i := 0) (N := (some 56)) (v := ?_) (a' := ?_) #[true, false, false, false, false, false, false, false, false, false, false, false, false, false, false, false, false, false, false, false] rfl rfl (by kernel_rfl) (fun _ _ _ h => h) (Or.inl ⟨by rfl, ?_⟩) ?_ ?_
          rotate_left
          · intro w'
            go_simp
            with_reducible rfl
          rotate_left
          · simp only [Act.put, List.setIfInBounds_toArray, List.set_cons_zero, List.set_cons_succ, i64_w, i32_w]
            rfl
          refine pure_ (i := 1) (N := (some 57)) (v := ?_) (a' := ?_) #[true, true, false, false, false, false, false, false, false, false, false, false, false, false, false, false, false, false, false, false] rfl rfl (by kernel_rfl) (fun _ _ _ h => h) (Or.inl ⟨by rfl, ?_⟩) ?_ ?_
          rotate_left
          · intro w'
            go_simp
            with_reducible rfl
          rotate_left
          · simp only [Act.put, List.setIfInBounds_toArray, List.set_cons_zero, List.set_cons_succ, i64_w, i32_w]
            rfl
          refine pure_ (i := 2) (N := (some 58)) (v := ?_) (a' := ?_) #[true, true, true, false, false, false, false, false, false, false, false, false, false, false, false, false, false, false, false, false] rfl rfl (by kernel_rfl) (fun _ _ _ h => h) (Or.inl ⟨by rfl, ?_⟩) ?_ ?_
          rotate_left
          · intro w'
            go_simp
            with_reducible rfl
          rotate_left
          · simp only [Act.put, List.setIfInBounds_toArray, List.set_cons_zero, List.set_cons_succ, i64_w, i32_w]
            rfl
          refine take_ (i := 3) (N := (some 59)) (v := ?_) (a' := ?_) #[true, true, true, true, false, false, false, false, false, false, false, false, false, false, false, false, false, false, false, false] rfl rfl (by kernel_rfl) (fun _ _ _ h => h) (Or.inl ⟨by rfl, ?_⟩) hHeld ?_ ?_
          rotate_left
          · rintro w' ⟨s0, s1⟩
            go_simp
            with_reducible rfl
          rotate_left
          · simp only [Act.put, List.setIfInBounds_toArray, List.set_cons_zero, List.set_cons_succ, i64_w, i32_w]
            rfl
          refine pure_ (i := 4) (N := (some 60)) (v := ?_) (a' := ?_) #[true, true, true, true, true, false, false, false, false, false, false, false, false, false, false, false, false, false, false, false] rfl rfl (by kernel_rfl) (fun _ _ _ h => h) (Or.inl ⟨by rfl, ?_⟩) ?_ ?_
          rotate_left
          · intro w'
            go_simp
            with_reducible rfl
          rotate_left
          · simp only [Act.put, List.setIfInBounds_toArray, List.set_cons_zero, List.set_cons_succ, i64_w, i32_w]
            rfl
          refine pure_ (i := 5) (N := (some 61)) (v := ?_) (a' := ?_) #[true, true, true, true, true, true, false, false, false, false, false, false, false, false, false, false, false, false, false, false] rfl rfl (by kernel_rfl) (fun _ _ _ h => h) (Or.inl ⟨by rfl, ?_⟩) ?_ ?_
          rotate_left
          · intro w'
            go_simp
            with_reducible rfl
          rotate_left
          · simp only [Act.put, List.setIfInBounds_toArray, List.set_cons_zero, List.set_cons_succ, i64_w, i32_w]
            rfl
          refine pure_ (i := 6) (N := (some 62)) (v := ?_) (a' := ?_) #[true, true, true, true, true, true, true, false, false, false, false, false, false, false, false, false, false, false, false, false] rfl rfl (by kernel_rfl) (fun _ _ _ h => h) (Or.inl ⟨by rfl, ?_⟩) ?_ ?_
          rotate_left
          · intro w'
            go_simp
            with_reducible rfl
          rotate_left
          · simp only [Act.put, List.setIfInBounds_toArray, List.set_cons_zero, List.set_cons_succ, i64_w, i32_w]
            rfl
          refine pure_ (i := 7) (N := (some 63)) (v := ?_) (a' := ?_) #[true, true, true, true, true, true, true, true, false, false, false, false, false, false, false, false, false, false, false, false] rfl rfl (by kernel_rfl) (fun _ _ _ h => h) (Or.inl ⟨by rfl, ?_⟩) ?_ ?_
          rotate_left
          · intro w'
            go_simp
            with_reducible rfl
          rotate_left
          · simp only [Act.put, List.setIfInBounds_toArray, List.set_cons_zero, List.set_cons_succ, i64_w, i32_w]
            rfl
          refine take_ (i := 8) (N := (some 64)) (v := ?_) (a' := ?_) #[true, true, true, true, true, true, true, true, true, false, false, false, false, false, false, false, false, false, false, false] rfl rfl (by kernel_rfl) (fun _ _ _ h => h) (Or.inl ⟨by rfl, ?_⟩) hHeld ?_ ?_
          rotate_left
          · rintro w' ⟨s0, s1⟩
            go_simp
            with_reducible rfl
          rotate_left
          · simp only [Act.put, List.setIfInBounds_toArray, List.set_cons_zero, List.set_cons_succ, i64_w, i32_w]
            rfl
          refine pure_ (i := 9) (N := (some 65)) (v := ?_) (a' := ?_) #[true, true, true, true, true, true, true, true, true, true, false, false, false, false, false, false, false, false, false, false] rfl rfl (by kernel_rfl) (fun _ _ _ h => h) (Or.inl ⟨by rfl, ?_⟩) ?_ ?_
          rotate_left
          · intro w'
            go_simp
            with_reducible rfl
          rotate_left
          · simp only [Act.put, List.setIfInBounds_toArray, List.set_cons_zero, List.set_cons_succ, i64_w, i32_w]
            rfl
          refine pure_ (i := 10) (N := (some 66)) (v := ?_) (a' := ?_) #[true, true, true, true, true, true, true, true, true, true, true, false, false, false, false, false, false, false, false, false] rfl rfl (by kernel_rfl) (fun _ _ _ h => h) (Or.inl ⟨by rfl, ?_⟩) ?_ ?_
          rotate_left
          · intro w'
            go_simp
            with_reducible rfl
          rotate_left
          · simp only [Act.put, List.setIfInBounds_toArray, List.set_cons_zero, List.set_cons_succ, i64_w, i32_w]
            rfl
          refine take_ (i := 11) (N := (some 67)) (v := ?_) (a' := ?_) #[true, true, true, true, true, true, true, true, true, true, true, true, false, false, false, false, false, false, false, false] rfl rfl (by kernel_rfl) (fun _ _ _ h => h) (Or.inl ⟨by rfl, ?_⟩) hHeld ?_ ?_
          rotate_left
          · rintro w' ⟨s0, s1⟩
            go_simp
            with_reducible rfl
          rotate_left
          · simp only [Act.put, List.setIfInBounds_toArray, List.set_cons_zero, List.set_cons_succ, i64_w, i32_w]
            rfl
          refine pure_ (i := 12) (N := (some 68)) (v := ?_) (a' := ?_) #[true, true, true, true, true, true, true, true, true, true, true, true, true, false, false, false, false, false, false, false] rfl rfl (by kernel_rfl) (fun _ _ _ h => h) (Or.inl ⟨by rfl, ?_⟩) ?_ ?_
          rotate_left
          · intro w'
            go_simp
            with_reducible rfl
          rotate_left
          · simp only [Act.put, List.setIfInBounds_toArray, List.set_cons_zero, List.set_cons_succ, i64_w, i32_w]
            rfl
          refine one_ (i := 13) (N := (some 69)) #[true, true, true, true, true, true, true, true, true, true, true, true, true, true, false, false, false, false, false, false] rfl rfl (by kernel_rfl) (by decide) (fun K hK => ?_)
          refine goes_ Try.func14 (by kernel_rfl) rfl #[.int .u64 x3, .int .u64 k3] (by rfl) rfl rfl (by (try simp only [List.map_toArray, List.map_cons, List.map_nil]); first | done | rfl) ?_
          with_reducible refine (words_Half.calls x3 k3 (Go.bits .xor .u64 x3 k3) (Go.bits .and .u64 x3 k3) _ rfl).mono ?_
          rintro er_ z3' ⟨rfl, ⟨nd_, rfl⟩⟩
          refine ⟨_, rfl, ?_⟩
          have P2 := P.out.on (pw_below_drewN (Below.refl z3.heap.size z3) nd_)
          refine hK.out _ _ ⟨P2.at_.2 7 _ rfl, (own_word (show (z3.drewN nd_).ownsRow w.heap.size 22 1 (.slice (some ⟨g3, 0, none⟩) L c_3) qd.length (nums .u64 qd) from P2.rows.own 3 _ rfl) y p (by have := HQ3.out; omega)).trans (by rw [HX3.out])⟩ (fun hHeld => ?_)
          clear hK K P
          have P := Aside0.mk P2
          clear P2
          generalize z3.drewN nd_ = y3 at P hHeld ⊢
          obtain ⟨x_k3, hk3⟩ : ∃ q, Go.bits .xor .u64 x3 k3 = q := ⟨_, rfl⟩
          obtain ⟨k4, hc3⟩ : ∃ q, Go.bits .and .u64 x3 k3 = q := ⟨_, rfl⟩
          rw [hk3, hc3]
          have HK3 := Aside0.mk hk3
          have HC3' := Aside0.mk hc3
          clear hk3 hc3
          refine pure_ (i := 14) (N := (some 55)) (v := ?_) (a' := ?_) #[true, true, true, true, true, true, true, true, true, true, true, true, true, true, true, false, false, false, false, false] rfl rfl (by kernel_rfl) (fun _ _ _ h => h) (Or.inl ⟨by rfl, ?_⟩) ?_ ?_
          rotate_left
          · intro w'
            go_simp
            with_reducible rfl
          rotate_left
          · simp only [Act.put, List.setIfInBounds_toArray, List.set_cons_zero, List.set_cons_succ, i64_w, i32_w]
            rfl
          refine pure_ (i := 15) (N := (some 70)) (v := ?_) (a' := ?_) #[true, true, true, true, true, true, true, true, true, true, true, true, true, true, true, true, false, false, false, false] rfl rfl (by kernel_rfl) (fun _ _ _ h => h) (Or.inl ⟨by rfl, ?_⟩) ?_ ?_
          rotate_left
          · intro w'
            go_simp
            with_reducible rfl
          rotate_left
          · simp only [Act.put, List.setIfInBounds_toArray, List.set_cons_zero, List.set_cons_succ, i64_w, i32_w]
            rfl
          refine pure_ (i := 16) (N := (some 71)) (v := ?_) (a' := ?_) #[true, true, true, true, true, true, true, true, true, true, true, true, true, true, true, true, true, false, false, false] rfl rfl (by kernel_rfl) (fun _ _ _ h => h) (Or.inl ⟨by rfl, ?_⟩) ?_ ?_
          rotate_left
          · intro w'
            go_simp
            with_reducible rfl
          rotate_left
          · simp only [Act.put, List.setIfInBounds_toArray, List.set_cons_zero, List.set_cons_succ, i64_w, i32_w]
            rfl
          refine pure_ (i := 17) (N := (some 72)) (v := ?_) (a' := ?_) #[true, true, true, true, true, true, true, true, true, true, true, true, true, true, true, true, true, true, false, false] rfl rfl (by kernel_rfl) (fun _ _ _ h => h) (Or.inl ⟨by rfl, ?_⟩) ?_ ?_
          rotate_left
          · intro w'
            go_simp
            with_reducible rfl
          rotate_left
          · simp only [Act.put, List.setIfInBounds_toArray, List.set_cons_zero, List.set_cons_succ, i64_w, i32_w]
            rfl
          refine last_ (i := 18) (N := none) #[true, true, true, true, true, true, true, true, true, true, true, true, true, true, true, true, true, true, true, false] rfl rfl (by kernel_rfl) (by decide) (fun K hK => ?_)
          have c_ := hHeld.2
          have f_ := own_frozen (P.out.rows.own 3 _ rfl) y.toNat
          refine skip_ (w1 := y3.setCell ⟨g3, y.toNat, none⟩ (.int .u64 x_k3)) (by rfl) rfl ?_ ?_
          · first | (go_simp; done) | (go_simp; rfl)
          refine hK.out _ _ ?_
          clear hK K hHeld c_ f_
          refine pure_ (i := 19) (N := (some 11)) (v := ?_) (a' := ?_) #[true, true, true, true, true, true, true, true, true, true, true, true, true, true, true, true, true, true, true, true] rfl rfl (by kernel_rfl) (fun _ _ _ h => h) (Or.inl ⟨by rfl, ?_⟩) ?_ ?_
          rotate_left
          · intro w'
            go_simp
            with_reducible rfl
          rotate_left
          · simp only [Act.put, List.setIfInBounds_toArray, List.set_cons_zero, List.set_cons_succ, i64_w, i32_w]
            rfl
          refine done_ (by kernel_rfl) ?_
          have P2 : CS w _ b r [.int .i64 n, .slice (some ⟨g0, 0, none⟩) L c_0, .int .i64 n, .slice (some ⟨g1, 0, none⟩) L c_1, .int .i64 n, .slice (some ⟨g2, 0, none⟩) L c_2, .int .i64 n, .slice (some ⟨g3, 0, none⟩) L c_3] [(.slice (some ⟨g0, 0, none⟩) L c_0, qa.set y.toNat x_k0), (.slice (some ⟨g1, 0, none⟩) L c_1, qb.set y.toNat x_k1), (.slice (some ⟨g2, 0, none⟩) L c_2, qc.set y.toNat x_k2), (.slice (some ⟨g3, 0, none⟩) L c_3, qd.set y.toNat x_k3)] := P.out.word (j := 3) rfl (by have := HQ3.out; omega) y.toNat x_k3
          clear P
          have P := Aside0.mk P2
          clear P2
          generalize World.setCell _ _ _ = s3 at P ⊢
          go_wp2
          rw [rounds_succ]
          go_wp2
          go_roundg (L - (y + 1).toNat)
          case measure => go_light; have := HY.out; omega
          case rel =>
            go_light
            refine ⟨y + 1, by have hw : wrap64 (y + 1) = y + 1 := (by unfold wrap64; omega); first | rfl | (rw [hw]; done) | (simp [hw]; done), ⟨by omega, by omega, by omega⟩, ⟨?_⟩⟩
            have h2 := P.out
            rw [show (y + 1).toNat = y.toNat + 1 by omega]
            have e1 : Q4.wordsTo (Q4.rowsTo (zero4 L) l j.toNat) ws (y.toNat + 1) = ⟨qa.set y.toNat x_k0, qb.set y.toNat x_k1, qc.set y.toNat x_k2, qd.set y.toNat x_k3⟩ := by
              have hwd : ws.getD y.toNat 0 = wd := HWD.out
              show Q4.word (Q4.wordsTo (Q4.rowsTo (zero4 L) l j.toNat) ws y.toNat) y.toNat (ws.getD y.toNat 0) = _
              rw [HQ.out, hwd]
              unfold Q4.word
              simp only
              rw [HX0.out, HX1.out, HX2.out, HX3.out, HC0'.out, HC1'.out, HC2'.out, HK0.out, HK1.out, HK2.out, HK3.out]
            rw [e1]
            exact h2
        · have hy : y = L := by have := HY.out; omega
          subst hy
          go_wp2
          go_roundg (l.length - (j + 1).toNat)
          case measure => go_light; have := HJ.out; omega
          case rel =>
            go_light
            refine ⟨j + 1, by have hw : wrap64 (j + 1) = j + 1 := (by unfold wrap64; omega); first | rfl | (rw [hw]; done) | (simp [hw]; done), ⟨by omega, by omega, by omega⟩, ⟨?_⟩⟩
            rw [show (j + 1).toNat = j.toNat + 1 by omega]
            have e1 : Q4.rowsTo (zero4 L) l (j.toNat + 1) = Q4.wordsTo (Q4.rowsTo (zero4 L) l j.toNat) ws L := by
              show Q4.wordsTo (Q4.rowsTo (zero4 L) l j.toNat) (l.getD j.toNat z31).f1 (l.getD j.toNat z31).f1.length = _
              have hws : (l.getD j.toNat z31).f1 = ws := HWS.out
              rw [hws, HLN.out]
            rw [e1]
            have h2 := P.out
            rwa [Int.toNat_natCast] at h2
    · have hj : j = l.length := by have := HJ.out; omega
      subst hj
      have x_0 := P.out.at_.2 0 _ rfl
      have z_0 : wr.cell? ⟨r, 0, none⟩ = some (.int .i64 0) := (blk_cell P.out.rx 0).trans rfl
      have f_0 := blk_frozen P.out.rx 0
      have x_1 := P.out.at_.2 1 _ rfl
      have z_1 : wr.cell? ⟨r, 1, none⟩ = some (.slice none 0 0) := (blk_cell P.out.rx 1).trans rfl
      have f_1 := blk_frozen P.out.rx 1
      have x_2 := P.out.at_.2 2 _ rfl
      have z_2 : wr.cell? ⟨r, 2, none⟩ = some (.int .i64 0) := (blk_cell P.out.rx 2).trans rfl
      have f_2 := blk_frozen P.out.rx 2
      have x_3 := P.out.at_.2 3 _ rfl
      have z_3 : wr.cell? ⟨r, 3, none⟩ = some (.slice none 0 0) := (blk_cell P.out.rx 3).trans rfl
      have f_3 := blk_frozen P.out.rx 3
      have x_4 := P.out.at_.2 4 _ rfl
      have z_4 : wr.cell? ⟨r, 4, none⟩ = some (.int .i64 0) := (blk_cell P.out.rx 4).trans rfl
      have f_4 := blk_frozen P.out.rx 4
      have x_5 := P.out.at_.2 5 _ rfl
      have z_5 : wr.cell? ⟨r, 5, none⟩ = some (.slice none 0 0) := (blk_cell P.out.rx 5).trans rfl
      have f_5 := blk_frozen P.out.rx 5
      have x_6 := P.out.at_.2 6 _ rfl
      have z_6 : wr.cell? ⟨r, 6, none⟩ = some (.int .i64 0) := (blk_cell P.out.rx 6).trans rfl
      have f_6 := blk_frozen P.out.rx 6
      have x_7 := P.out.at_.2 7 _ rfl
      have z_7 : wr.cell? ⟨r, 7, none⟩ = some (.slice none 0 0) := (blk_cell P.out.rx 7).trans rfl
      have f_7 := blk_frozen P.out.rx 7
      go_wp2
      obtain ⟨d1, d2, d3⟩ := P.out.done (.int .i64 n) (.slice A_0 L c_0) (.int .i64 n) (.slice A_1 L c_1) (.int .i64 n) (.slice A_2 L c_2) (.int .i64 n) (.slice A_3 L c_3) _ rfl
      rw [Int.toNat_natCast] at d2
      exact bodyPost_ret (results_ct rfl _ _ r 54 _ (0, 0) _ rfl d1 hu4 rfl (by kernel_rfl)) rfl ⟨_, _, _, _, rfl, d2, d3⟩
end Go.Proofs.Ytlghmadoogblcaa.CountWalk
end
section
namespace Go.Proofs.Ytlghmadoogblcaa.CountWalk
open Go Go.RowKit Go.Proofs.YtlghmadoogblcaaW.PrintWords Go.Proofs.YtlghmadoogblcaaW.PrintLast Go.Proofs.YtlghmadoogblcaaW.PrintMore Go.Proofs.Ytlghmadoogblcaa.PW Go.Proofs.Ytlghmadoogblcaa.Book Go.Proofs.Ytlghmadoogblcaa.Lent Go.Proofs.Ytlghmadoogblcaa.Pile Go.Proofs.Ytlghmadoogblcaa.Rows4
set_option linter.unusedVariables false
set_option linter.unusedSimpArgs false
theorem rows_nil (base : Nat) (W : World) : Rws base W ((⟨[], [], [], []⟩ : Q4).rows (.slice none 0 0) (.slice none 0 0) (.slice none 0 0) (.slice none 0 0)) := by
  have key : ∀ (j : Nat) p, ((⟨[], [], [], []⟩ : Q4).rows (.slice none 0 0) (.slice none 0 0) (.slice none 0 0) (.slice none 0 0))[j]? = some p → p = (.slice none 0 0, []) := by
    intro j p h
    match j, h with
    | 0, h => exact (Option.some.inj h).symm
    | 1, h => exact (Option.some.inj h).symm
    | 2, h => exact (Option.some.inj h).symm
    | 3, h => exact (Option.some.inj h).symm
    | j + 4, h => simp [Q4.rows] at h
  refine ⟨fun j p h => ?_, fun i j p q _ h _ => .inl ?_⟩
  · rw [key j p h]; exact own_nil _ _ _ _
  · rw [key i p h]; rfl
set_option maxHeartbeats 8000000 in
set_option maxRecDepth 100000 in
theorem count_many (A0 : Option Addr) (c0 : Nat) (l : List S31) (w : World) (h15 : 15 < l.length) (hm : l.length ≤ 9223372036854775807) :
    Calls Try.prog 33 #[.slice A0 l.length c0] w fun e w' => ∃ v0 v1 v2 v3, e = .returned (.tuple #[.agg (cells4 0 v0 v1 v2 v3).toArray, .int .i64 6]) ∧ Rws w.heap.size w' ((⟨[], [], [], []⟩ : Q4).rows v0 v1 v2 v3) ∧ Below w.heap.size w w' := by
  have hu := Try.underlying31
  have hu4 := Try.underlying54
  have d15 : decide ((l.length : Int) > 15) = true := decide_eq_true (by omega)
  go_enter Try.func33, Try.ntmps33
  go_wp2_with (first
    | ((with_reducible refine gate_dst (N := 2) rfl ?_); refine box_event ?hg2 (N := 2) ?hd2 (cs := #[.int .i64 0, .slice none 0 0, .int .i64 0, .slice none 0 0, .int .i64 0, .slice none 0 0, .int .i64 0, .slice none 0 0]) (t := 54) ?hr2 ?_; (case hd2 => rfl); (case hg2 => rfl); (case hr2 => first | (go_simp; done) | (go_simp; rfl)); intro r gr W1 x1 hb1; have hgr : w.heap.size ≤ r := (by omega); clear gr)
    | ((with_reducible refine gate_dst (N := 4) rfl ?_); refine box_event ?hg4 (N := 4) ?hd4 (cs := #[.int .i64 0, .slice none 0 0, .int .i64 0, .slice none 0 0, .int .i64 0, .slice none 0 0, .int .i64 0, .slice none 0 0]) (t := 54) ?hr4 ?_; (case hd4 => rfl); (case hg4 => rfl); (case hr4 => first | (go_simp; done) | (go_simp; rfl)); intro b gb W2 x2 hb2; have P2 : CS w W2 b r (cells4 0 (.slice none 0 0) (.slice none 0 0) (.slice none 0 0) (.slice none 0 0)) [] := ⟨chain_ hb1 hb2, x2, blk_below x1 hb2, (by have := hb1.size; omega), (by omega), (by have := blk_lt x1; omega), Rws.nil⟩; have P := Aside0.mk P2; clear P2 x1 x2 hb1 hb2 gb; have x_0 := P.out.at_.2 0 _ rfl; have z_0 : (W2).cell? ⟨r, 0, none⟩ = some (.int .i64 0) := (blk_cell P.out.rx 0).trans rfl; have f_0 := blk_frozen P.out.rx 0; have x_1 := P.out.at_.2 1 _ rfl; have z_1 : (W2).cell? ⟨r, 1, none⟩ = some (.slice none 0 0) := (blk_cell P.out.rx 1).trans rfl; have f_1 := blk_frozen P.out.rx 1; have x_2 := P.out.at_.2 2 _ rfl; have z_2 : (W2).cell? ⟨r, 2, none⟩ = some (.int .i64 0) := (blk_cell P.out.rx 2).trans rfl; have f_2 := blk_frozen P.out.rx 2; have x_3 := P.out.at_.2 3 _ rfl; have z_3 : (W2).cell? ⟨r, 3, none⟩ = some (.slice none 0 0) := (blk_cell P.out.rx 3).trans rfl; have f_3 := blk_frozen P.out.rx 3; have x_4 := P.out.at_.2 4 _ rfl; have z_4 : (W2).cell? ⟨r, 4, none⟩ = some (.int .i64 0) := (blk_cell P.out.rx 4).trans rfl; have f_4 := blk_frozen P.out.rx 4; have x_5 := P.out.at_.2 5 _ rfl; have z_5 : (W2).cell? ⟨r, 5, none⟩ = some (.slice none 0 0) := (blk_cell P.out.rx 5).trans rfl; have f_5 := blk_frozen P.out.rx 5; have x_6 := P.out.at_.2 6 _ rfl; have z_6 : (W2).cell? ⟨r, 6, none⟩ = some (.int .i64 0) := (blk_cell P.out.rx 6).trans rfl; have f_6 := blk_frozen P.out.rx 6; have x_7 := P.out.at_.2 7 _ rfl; have z_7 : (W2).cell? ⟨r, 7, none⟩ = some (.slice none 0 0) := (blk_cell P.out.rx 7).trans rfl; have f_7 := blk_frozen P.out.rx 7))
  obtain ⟨d1, d2, d3⟩ := P.out.done (.int .i64 0) (.slice none 0 0) (.int .i64 0) (.slice none 0 0) (.int .i64 0) (.slice none 0 0) (.int .i64 0) (.slice none 0 0) _ rfl
  exact bodyPost_ret (results_ct rfl _ _ r 54 _ (0, 0) _ rfl d1 hu4 rfl (by kernel_rfl)) rfl ⟨_, _, _, _, rfl, rows_nil _ _, d3⟩
set_option maxHeartbeats 8000000 in
set_option maxRecDepth 100000 in
theorem count_bad (k : Nat) (A0 : Option Addr) (c0 : Nat) (l : List S31) (er : Int) (w : World) (hr0 : Kd.C k31 w A0 l.length l) (hc0 : l.length ≤ c0) (h15 : l.length ≤ 15) (hfit : words_fits.f k l = some er) (her : er ≠ 0) :
    Calls Try.prog 33 #[.slice A0 l.length c0] w fun e w' => ∃ v0 v1 v2 v3, e = .returned (.tuple #[.agg (cells4 0 v0 v1 v2 v3).toArray, .int .i64 er]) ∧ Rws w.heap.size w' ((⟨[], [], [], []⟩ : Q4).rows v0 v1 v2 v3) ∧ Below w.heap.size w w' := by
  have HR := Aside0.mk hr0; have HC0 := Aside0.mk hc0; have HF := Aside0.mk hfit
  have hu := Try.underlying31
  have hu4 := Try.underlying54
  have d15 : decide ((l.length : Int) > 15) = false := decide_eq_false (by omega)
  have de : ((er : Int) != 0) = true := by simpa using her
  clear hr0 hfit her
  go_enter Try.func33, Try.ntmps33
  go_wp2_with (first
    | ((with_reducible refine gate_dst (N := 2) rfl ?_); refine box_event ?hg2 (N := 2) ?hd2 (cs := #[.int .i64 0, .slice none 0 0, .int .i64 0, .slice none 0 0, .int .i64 0, .slice none 0 0, .int .i64 0, .slice none 0 0]) (t := 54) ?hr2 ?_; (case hd2 => rfl); (case hg2 => rfl); (case hr2 => first | (go_simp; done) | (go_simp; rfl)); intro r gr W1 x1 hb1; have hgr : w.heap.size ≤ r := (by omega); clear gr)
    | ((with_reducible refine gate_dst (N := 4) rfl ?_); refine box_event ?hg4 (N := 4) ?hd4 (cs := #[.int .i64 0, .slice none 0 0, .int .i64 0, .slice none 0 0, .int .i64 0, .slice none 0 0, .int .i64 0, .slice none 0 0]) (t := 54) ?hr4 ?_; (case hd4 => rfl); (case hg4 => rfl); (case hr4 => first | (go_simp; done) | (go_simp; rfl)); intro b gb W2 x2 hb2; have P2 : CS w W2 b r (cells4 0 (.slice none 0 0) (.slice none 0 0) (.slice none 0 0) (.slice none 0 0)) [] := ⟨chain_ hb1 hb2, x2, blk_below x1 hb2, (by have := hb1.size; omega), (by omega), (by have := blk_lt x1; omega), Rws.nil⟩; have P := Aside0.mk P2; clear P2 x1 x2 hb1 hb2 gb)
    | (go_at_call 55; have P1 := P.out; with_reducible refine (words_fits.calls k A0 c0 l er _ (Kd.C_below HR.out P1.be) HC0.out HF.out).mono ?_; rintro er_ v1 ⟨rfl, hb⟩; have P2 := P1.on hb; clear hb P P1; have P := Aside0.mk P2; clear P2; have x_0 := P.out.at_.2 0 _ rfl; have z_0 : (v1).cell? ⟨r, 0, none⟩ = some (.int .i64 0) := (blk_cell P.out.rx 0).trans rfl; have f_0 := blk_frozen P.out.rx 0; have x_1 := P.out.at_.2 1 _ rfl; have z_1 : (v1).cell? ⟨r, 1, none⟩ = some (.slice none 0 0) := (blk_cell P.out.rx 1).trans rfl; have f_1 := blk_frozen P.out.rx 1; have x_2 := P.out.at_.2 2 _ rfl; have z_2 : (v1).cell? ⟨r, 2, none⟩ = some (.int .i64 0) := (blk_cell P.out.rx 2).trans rfl; have f_2 := blk_frozen P.out.rx 2; have x_3 := P.out.at_.2 3 _ rfl; have z_3 : (v1).cell? ⟨r, 3, none⟩ = some (.slice none 0 0) := (blk_cell P.out.rx 3).trans rfl; have f_3 := blk_frozen P.out.rx 3; have x_4 := P.out.at_.2 4 _ rfl; have z_4 : (v1).cell? ⟨r, 4, none⟩ = some (.int .i64 0) := (blk_cell P.out.rx 4).trans rfl; have f_4 := blk_frozen P.out.rx 4; have x_5 := P.out.at_.2 5 _ rfl; have z_5 : (v1).cell? ⟨r, 5, none⟩ = some (.slice none 0 0) := (blk_cell P.out.rx 5).trans rfl; have f_5 := blk_frozen P.out.rx 5; have x_6 := P.out.at_.2 6 _ rfl; have z_6 : (v1).cell? ⟨r, 6, none⟩ = some (.int .i64 0) := (blk_cell P.out.rx 6).trans rfl; have f_6 := blk_frozen P.out.rx 6; have x_7 := P.out.at_.2 7 _ rfl; have z_7 : (v1).cell? ⟨r, 7, none⟩ = some (.slice none 0 0) := (blk_cell P.out.rx 7).trans rfl; have f_7 := blk_frozen P.out.rx 7))
  obtain ⟨d1, d2, d3⟩ := P.out.done (.int .i64 0) (.slice none 0 0) (.int .i64 0) (.slice none 0 0) (.int .i64 0) (.slice none 0 0) (.int .i64 0) (.slice none 0 0) _ rfl
  exact bodyPost_ret (results_ct rfl _ _ r 54 _ (0, 0) _ rfl d1 hu4 rfl (by kernel_rfl)) rfl ⟨_, _, _, _, rfl, rows_nil _ _, d3⟩
set_option maxHeartbeats 8000000 in
set_option maxRecDepth 100000 in
theorem count_none (k : Nat) (A0 : Option Addr) (c0 : Nat) (w : World) (hfit : words_fits.f k [] = some 0) (hbl : words_blank.f 0 = some (0, [])) :
    Calls Try.prog 33 #[.slice A0 0 c0] w fun e w' => ∃ v0 v1 v2 v3, e = .returned (.tuple #[.agg (cells4 0 v0 v1 v2 v3).toArray, .int .i64 0]) ∧ Rws w.heap.size w' ((⟨[], [], [], []⟩ : Q4).rows v0 v1 v2 v3) ∧ Below w.heap.size w w' := by
  have HF := Aside0.mk hfit; have HBL := Aside0.mk hbl
  have hu := Try.underlying31
  have hu4 := Try.underlying54
  clear hfit hbl
  go_enter Try.func33, Try.ntmps33
  go_wp2_with (first
    | ((with_reducible refine gate_dst (N := 2) rfl ?_); refine box_event ?hg2 (N := 2) ?hd2 (cs := #[.int .i64 0, .slice none 0 0, .int .i64 0, .slice none 0 0, .int .i64 0, .slice none 0 0, .int .i64 0, .slice none 0 0]) (t := 54) ?hr2 ?_; (case hd2 => rfl); (case hg2 => rfl); (case hr2 => first | (go_simp; done) | (go_simp; rfl)); intro r gr W1 x1 hb1; have hgr : w.heap.size ≤ r := (by omega); clear gr)
    | ((with_reducible refine gate_dst (N := 4) rfl ?_); refine box_event ?hg4 (N := 4) ?hd4 (cs := #[.int .i64 0, .slice none 0 0, .int .i64 0, .slice none 0 0, .int .i64 0, .slice none 0 0, .int .i64 0, .slice none 0 0]) (t := 54) ?hr4 ?_; (case hd4 => rfl); (case hg4 => rfl); (case hr4 => first | (go_simp; done) | (go_simp; rfl)); intro b gb W2 x2 hb2; have P2 : CS w W2 b r (cells4 0 (.slice none 0 0) (.slice none 0 0) (.slice none 0 0) (.slice none 0 0)) [] := ⟨chain_ hb1 hb2, x2, blk_below x1 hb2, (by have := hb1.size; omega), (by omega), (by have := blk_lt x1; omega), Rws.nil⟩; have P := Aside0.mk P2; clear P2 x1 x2 hb1 hb2 gb)
    | (go_at_call 55; have P1 := P.out; have h_ : Calls Try.prog 55 #[.slice A0 0 c0] W2 (fun e w' => e = .returned (.int .i64 0) ∧ Below W2.heap.size W2 w') := words_fits.calls k A0 c0 [] 0 W2 ⟨rfl, by simp, fun h => absurd h (Nat.lt_irrefl 0)⟩ (Nat.zero_le _) HF.out; with_reducible refine h_.mono ?_; clear h_; rintro er_ v1 ⟨rfl, hb⟩; have P2 := P1.on hb; clear hb P P1; have P := Aside0.mk P2; clear P2))
  refine wp_loop_rounds 5 ?_
  rw [rounds_succ]
  go_wp2_with (go_at_call 47; have P1 := P.out; with_reducible refine (words_blank.calls 0 0 [] _ HBL.out).mono ?_; rintro er_ u0 ⟨t_, rfl, hR, hb⟩; obtain ⟨A_0, c_0, e_, -, -⟩ := Kd.R_reads hR; rw [List.length_nil] at e_; subst e_; have P2 := P1.told hb hR; clear hb hR P P1; have P := Aside0.mk P2; clear P2; have x_0 := P.out.at_.2 0 _ rfl; have f_0 := blk_frozen P.out.bx 0; have x_1 := P.out.at_.2 1 _ rfl; have f_1 := blk_frozen P.out.bx 1; have x_2 := P.out.at_.2 2 _ rfl; have f_2 := blk_frozen P.out.bx 2; have x_3 := P.out.at_.2 3 _ rfl; have f_3 := blk_frozen P.out.bx 3; have x_4 := P.out.at_.2 4 _ rfl; have f_4 := blk_frozen P.out.bx 4; have x_5 := P.out.at_.2 5 _ rfl; have f_5 := blk_frozen P.out.bx 5; have x_6 := P.out.at_.2 6 _ rfl; have f_6 := blk_frozen P.out.bx 6; have x_7 := P.out.at_.2 7 _ rfl; have f_7 := blk_frozen P.out.bx 7; have q_b := P.out.at_.1)
  have P2 : CS w _ b r [.int .i64 0, .slice A_0 0 c_0, .int .i64 0, .slice none 0 0, .int .i64 0, .slice none 0 0, .int .i64 0, .slice none 0 0] [(.slice A_0 0 c_0, [])] := P.out.put 0 (.int .i64 0) (.slice A_0 0 c_0) (by simp [cells4])
  clear x_0 f_0 x_1 f_1 x_2 f_2 x_3 f_3 x_4 f_4 x_5 f_5 x_6 f_6 x_7 f_7 q_b
  clear P
  have P := Aside0.mk P2
  clear P2
  generalize (World.setCell _ _ _).setCell _ _ = w0 at P ⊢
  rw [rounds_succ]
  go_wp2_with (go_at_call 47; have P1 := P.out; with_reducible refine (words_blank.calls 0 0 [] _ HBL.out).mono ?_; rintro er_ u1 ⟨t_, rfl, hR, hb⟩; obtain ⟨A_1, c_1, e_, -, -⟩ := Kd.R_reads hR; rw [List.length_nil] at e_; subst e_; have P2 := P1.told hb hR; clear hb hR P P1; have P := Aside0.mk P2; clear P2; have x_0 := P.out.at_.2 0 _ rfl; have f_0 := blk_frozen P.out.bx 0; have x_1 := P.out.at_.2 1 _ rfl; have f_1 := blk_frozen P.out.bx 1; have x_2 := P.out.at_.2 2 _ rfl; have f_2 := blk_frozen P.out.bx 2; have x_3 := P.out.at_.2 3 _ rfl; have f_3 := blk_frozen P.out.bx 3; have x_4 := P.out.at_.2 4 _ rfl; have f_4 := blk_frozen P.out.bx 4; have x_5 := P.out.at_.2 5 _ rfl; have f_5 := blk_frozen P.out.bx 5; have x_6 := P.out.at_.2 6 _ rfl; have f_6 := blk_frozen P.out.bx 6; have x_7 := P.out.at_.2 7 _ rfl; have f_7 := blk_frozen P.out.bx 7; have q_b := P.out.at_.1)
  have P2 : CS w _ b r [.int .i64 0, .slice A_0 0 c_0, .int .i64 0, .slice A_1 0 c_1, .int .i64 0, .slice none 0 0, .int .i64 0, .slice none 0 0] [(.slice A_0 0 c_0, []), (.slice A_1 0 c_1, [])] := P.out.put 2 (.int .i64 0) (.slice A_1 0 c_1) (by simp [cells4])
  clear x_0 f_0 x_1 f_1 x_2 f_2 x_3 f_3 x_4 f_4 x_5 f_5 x_6 f_6 x_7 f_7 q_b
  clear P
  have P := Aside0.mk P2
  clear P2
  generalize (World.setCell _ _ _).setCell _ _ = w1 at P ⊢
  rw [rounds_succ]
  go_wp2_with (go_at_call 47; have P1 := P.out; with_reducible refine (words_blank.calls 0 0 [] _ HBL.out).mono ?_; rintro er_ u2 ⟨t_, rfl, hR, hb⟩; obtain ⟨A_2, c_2, e_, -, -⟩ := Kd.R_reads hR; rw [List.length_nil] at e_; subst e_; have P2 := P1.told hb hR; clear hb hR P P1; have P := Aside0.mk P2; clear P2; have x_0 := P.out.at_.2 0 _ rfl; have f_0 := blk_frozen P.out.bx 0; have x_1 := P.out.at_.2 1 _ rfl; have f_1 := blk_frozen P.out.bx 1; have x_2 := P.out.at_.2 2 _ rfl; have f_2 := blk_frozen P.out.bx 2; have x_3 := P.out.at_.2 3 _ rfl; have f_3 := blk_frozen P.out.bx 3; have x_4 := P.out.at_.2 4 _ rfl; have f_4 := blk_frozen P.out.bx 4; have x_5 := P.out.at_.2 5 _ rfl; have f_5 := blk_frozen P.out.bx 5; have x_6 := P.out.at_.2 6 _ rfl; have f_6 := blk_frozen P.out.bx 6; have x_7 := P.out.at_.2 7 _ rfl; have f_7 := blk_frozen P.out.bx 7; have q_b := P.out.at_.1)
  have P2 : CS w _ b r [.int .i64 0, .slice A_0 0 c_0, .int .i64 0, .slice A_1 0 c_1, .int .i64 0, .slice A_2 0 c_2, .int .i64 0, .slice none 0 0] [(.slice A_0 0 c_0, []), (.slice A_1 0 c_1, []), (.slice A_2 0 c_2, [])] := P.out.put 4 (.int .i64 0) (.slice A_2 0 c_2) (by simp [cells4])
  clear x_0 f_0 x_1 f_1 x_2 f_2 x_3 f_3 x_4 f_4 x_5 f_5 x_6 f_6 x_7 f_7 q_b
  clear P
  have P := Aside0.mk P2
  clear P2
  generalize (World.setCell _ _ _).setCell _ _ = w2 at P ⊢
  rw [rounds_succ]
  go_wp2_with (go_at_call 47; have P1 := P.out; with_reducible refine (words_blank.calls 0 0 [] _ HBL.out).mono ?_; rintro er_ u3 ⟨t_, rfl, hR, hb⟩; obtain ⟨A_3, c_3, e_, -, -⟩ := Kd.R_reads hR; rw [List.length_nil] at e_; subst e_; have P2 := P1.told hb hR; clear hb hR P P1; have P := Aside0.mk P2; clear P2; have x_0 := P.out.at_.2 0 _ rfl; have f_0 := blk_frozen P.out.bx 0; have x_1 := P.out.at_.2 1 _ rfl; have f_1 := blk_frozen P.out.bx 1; have x_2 := P.out.at_.2 2 _ rfl; have f_2 := blk_frozen P.out.bx 2; have x_3 := P.out.at_.2 3 _ rfl; have f_3 := blk_frozen P.out.bx 3; have x_4 := P.out.at_.2 4 _ rfl; have f_4 := blk_frozen P.out.bx 4; have x_5 := P.out.at_.2 5 _ rfl; have f_5 := blk_frozen P.out.bx 5; have x_6 := P.out.at_.2 6 _ rfl; have f_6 := blk_frozen P.out.bx 6; have x_7 := P.out.at_.2 7 _ rfl; have f_7 := blk_frozen P.out.bx 7; have q_b := P.out.at_.1)
  have P2 : CS w _ b r [.int .i64 0, .slice A_0 0 c_0, .int .i64 0, .slice A_1 0 c_1, .int .i64 0, .slice A_2 0 c_2, .int .i64 0, .slice A_3 0 c_3] [(.slice A_0 0 c_0, []), (.slice A_1 0 c_1, []), (.slice A_2 0 c_2, []), (.slice A_3 0 c_3, [])] := P.out.put 6 (.int .i64 0) (.slice A_3 0 c_3) (by simp [cells4])
  clear x_0 f_0 x_1 f_1 x_2 f_2 x_3 f_3 x_4 f_4 x_5 f_5 x_6 f_6 x_7 f_7 q_b
  clear P
  have P := Aside0.mk P2
  clear P2
  generalize (World.setCell _ _ _).setCell _ _ = w3 at P ⊢
  rw [rounds_succ]
  go_wp2
  refine wp_loop_rounds 1 ?_
  have x_0 := P.out.at_.2 0 _ rfl
  have z_0 : (w3).cell? ⟨r, 0, none⟩ = some (.int .i64 0) := (blk_cell P.out.rx 0).trans rfl
  have f_0 := blk_frozen P.out.rx 0
  have x_1 := P.out.at_.2 1 _ rfl
  have z_1 : (w3).cell? ⟨r, 1, none⟩ = some (.slice none 0 0) := (blk_cell P.out.rx 1).trans rfl
  have f_1 := blk_frozen P.out.rx 1
  have x_2 := P.out.at_.2 2 _ rfl
  have z_2 : (w3).cell? ⟨r, 2, none⟩ = some (.int .i64 0) := (blk_cell P.out.rx 2).trans rfl
  have f_2 := blk_frozen P.out.rx 2
  have x_3 := P.out.at_.2 3 _ rfl
  have z_3 : (w3).cell? ⟨r, 3, none⟩ = some (.slice none 0 0) := (blk_cell P.out.rx 3).trans rfl
  have f_3 := blk_frozen P.out.rx 3
  have x_4 := P.out.at_.2 4 _ rfl
  have z_4 : (w3).cell? ⟨r, 4, none⟩ = some (.int .i64 0) := (blk_cell P.out.rx 4).trans rfl
  have f_4 := blk_frozen P.out.rx 4
  have x_5 := P.out.at_.2 5 _ rfl
  have z_5 : (w3).cell? ⟨r, 5, none⟩ = some (.slice none 0 0) := (blk_cell P.out.rx 5).trans rfl
  have f_5 := blk_frozen P.out.rx 5
  have x_6 := P.out.at_.2 6 _ rfl
  have z_6 : (w3).cell? ⟨r, 6, none⟩ = some (.int .i64 0) := (blk_cell P.out.rx 6).trans rfl
  have f_6 := blk_frozen P.out.rx 6
  have x_7 := P.out.at_.2 7 _ rfl
  have z_7 : (w3).cell? ⟨r, 7, none⟩ = some (.slice none 0 0) := (blk_cell P.out.rx 7).trans rfl
  have f_7 := blk_frozen P.out.rx 7
  rw [rounds_succ]
  go_wp2
  obtain ⟨d1, d2, d3⟩ := P.out.done (.int .i64 0) (.slice A_0 0 c_0) (.int .i64 0) (.slice A_1 0 c_1) (.int .i64 0) (.slice A_2 0 c_2) (.int .i64 0) (.slice A_3 0 c_3) _ rfl
  exact bodyPost_ret (results_ct rfl _ _ r 54 _ (0, 0) _ rfl d1 hu4 rfl (by kernel_rfl)) rfl ⟨_, _, _, _, rfl, d2, d3⟩
end Go.Proofs.Ytlghmadoogblcaa.CountWalk
end
section
namespace Go.Proofs.Ytlghmadoogblcaa.Pile
open Go Go.RowKit Go.Proofs.YtlghmadoogblcaaW.PrintWords Go.Proofs.YtlghmadoogblcaaW.PrintLast Go.Proofs.YtlghmadoogblcaaW.PrintMore Go.Proofs.Ytlghmadoogblcaa.PS Go.Proofs.Ytlghmadoogblcaa.Bx Go.Proofs.Ytlghmadoogblcaa.Book Go.Proofs.Ytlghmadoogblcaa.Lent
set_option linter.unusedVariables false
set_option linter.unusedSimpArgs false
theorem bit_C_ {w : World} {base : Nat} {v : Value} {xs : List Bool} (h : w.ownsRow base 4 1 v xs.length (bools xs)) : ∃ A c, v = .slice A xs.length c ∧ xs.length ≤ c ∧ Kd.C Kd.bool w A xs.length xs :=
  Kd.R_reads (Kd.R_of_own (h1 := fun _ => rfl) (ok := fun _ => True) h (fun _ _ => trivial))
section
variable {w W W' : World} {b g cp : Nat} {gv wv : Value} {Z : List Ans} {ix : List Nat} {R : List (Value × List Int)} {T : List (Nat × List Value)} {L : List (Nat × Nat × List Int)} {l l' : List Bool}
theorem Pile0.bits {v : Value} (hb : Below w.heap.size w W) (ho : W.ownsRow w.heap.size 4 1 v l.length (bools l)) : Pile0 w W [] [] [(v, l)] :=
  ⟨hb, fun p hp => by simp at hp, fun j l h => by simp at h, fun i j l m _ h => by simp at h, fun j p h => by
    match j, h with
    | 0, h => obtain rfl := Option.some.inj h; exact ho, fun i j p q _ h => by simp at h⟩
end
end Go.Proofs.Ytlghmadoogblcaa.Pile
end
section
namespace Go.Proofs.Ytlghmadoogblcaa.RefCount
open Go Go.RowKit Go.Proofs.YtlghmadoogblcaaW.PrintWords Go.Proofs.YtlghmadoogblcaaW.PrintLast Go.Proofs.YtlghmadoogblcaaW.PrintMore Go.Proofs.Ytlghmadoogblcaa.PW Go.Proofs.Ytlghmadoogblcaa.Book Go.Proofs.Ytlghmadoogblcaa.Lent Go.Proofs.Ytlghmadoogblcaa.Pile Go.Proofs.Ytlghmadoogblcaa.Rows4 Go.Proofs.Ytlghmadoogblcaa.CountWalk
set_option linter.unusedVariables false
set_option linter.unusedSimpArgs false
def digit (bt : Nat → Nat → Bool) (j k : Nat) (i : Nat) : Bool := decide ((cntTo bt i j / 2 ^ k) % 2 = 1)
def digits (bt : Nat → Nat → Bool) (m j k : Nat) : List Bool := RefPlain.doneTo m m (digit bt j k) (fun _ => false)
theorem digits_len {bt : Nat → Nat → Bool} {m j k : Nat} : (digits bt m j k).length = m := RefPlain.doneTo_len _ _ _ _
theorem bit_C' {W : World} {base n m c : Nat} {A : Option Addr} {xs : List Bool} (e2 : xs.length = n) (h : W.ownsRow base 4 1 (.slice A m c) n (bools xs)) : Kd.C Kd.bool W A xs.length xs := by
  subst e2
  obtain ⟨A', c', e, _, hC⟩ := bit_C_ h
  cases e
  exact hC
set_option maxHeartbeats 8000000 in
set_option maxRecDepth 100000 in
theorem count_rows (k : Nat) (A0 : Option Addr) (c0 : Nat) (l : List S31) (m : Nat) (bt : Nat → Nat → Bool) (V0 V1 V2 V3 : List Int) (w : World) (hr0 : Kd.C k31 w A0 l.length l) (hc0 : l.length ≤ c0) (h15 : l.length ≤ 15) (hpos : 0 < l.length) (hfit : PF.vivariumref02_fits.f k l = some 0)
    (hn : (l.getD 0 z31).f0 = m) (hm : m ≤ 65538) (hbit : ∀ j i : Nat, j < l.length → i < m → PB.vivariumref02_bit.f (l.getD j z31).f0 (l.getD j z31).f1 i = some (bt j i))
    (e0 : PB.vivariumref02_Row.f k (digits bt m l.length 0) = some ((m : Int), V0)) (e1 : PB.vivariumref02_Row.f k (digits bt m l.length 1) = some ((m : Int), V1)) (e2 : PB.vivariumref02_Row.f k (digits bt m l.length 2) = some ((m : Int), V2)) (e3 : PB.vivariumref02_Row.f k (digits bt m l.length 3) = some ((m : Int), V3)) :
    Calls Try.prog 32 #[.slice A0 l.length c0] w fun e w' => ∃ v0 v1 v2 v3, e = .returned (.tuple #[.agg (cells4 (m : Int) v0 v1 v2 v3).toArray, .int .i64 0]) ∧ Rws w.heap.size w' ((⟨V0, V1, V2, V3⟩ : Q4).rows v0 v1 v2 v3) ∧ Below w.heap.size w w' := by
  have HR := Aside0.mk hr0; have HC0 := Aside0.mk hc0; have HF := Aside0.mk hfit; have HN := Aside0.mk hn; have HB := Aside0.mk hbit; have HE0 := Aside0.mk e0; have HE1 := Aside0.mk e1; have HE2 := Aside0.mk e2; have HE3 := Aside0.mk e3
  have hu := Try.underlying31
  have hu4 := Try.underlying54
  clear hr0 hfit hn hbit e0 e1 e2 e3
  have d15 : decide ((l.length : Int) > 15) = false := decide_eq_false (by omega)
  have dp : decide ((l.length : Int) > 0) = true := decide_eq_true (by omega)
  go_enter Try.func32, Try.ntmps32
  go_wp2_with (first
    | ((with_reducible refine gate_dst (N := 2) rfl ?_); refine box_event ?hg2 (N := 2) ?hd2 (cs := #[.int .i64 0, .slice none 0 0, .int .i64 0, .slice none 0 0, .int .i64 0, .slice none 0 0, .int .i64 0, .slice none 0 0]) (t := 54) ?hr2 ?_; (case hd2 => rfl); (case hg2 => rfl); (case hr2 => first | (go_simp; done) | (go_simp; rfl)); intro r gr W1 x1 hb1; have hgr : w.heap.size ≤ r := (by omega); clear gr)
    | ((with_reducible refine gate_dst (N := 4) rfl ?_); refine box_event ?hg4 (N := 4) ?hd4 (cs := #[.int .i64 0, .slice none 0 0, .int .i64 0, .slice none 0 0, .int .i64 0, .slice none 0 0, .int .i64 0, .slice none 0 0]) (t := 54) ?hr4 ?_; (case hd4 => rfl); (case hg4 => rfl); (case hr4 => first | (go_simp; done) | (go_simp; rfl)); intro b gb W2 x2 hb2; have P2 : CS w W2 b r (cells4 0 (.slice none 0 0) (.slice none 0 0) (.slice none 0 0) (.slice none 0 0)) [] := ⟨chain_ hb1 hb2, x2, blk_below x1 hb2, (by have := hb1.size; omega), (by omega), (by have := blk_lt x1; omega), Rws.nil⟩; have P := Aside0.mk P2; clear P2 x1 x2 hb1 hb2 gb)
    | (go_at_call 54; have P1 := P.out; with_reducible refine (PF.vivariumref02_fits.calls k A0 c0 l 0 _ (Kd.C_below HR.out P1.be) HC0.out HF.out).mono ?_; rintro er_ v1 ⟨rfl, hb⟩; have P2 := P1.on hb; clear hb P P1; have P := Aside0.mk P2; clear P2; obtain ⟨ad, A1, cc, e_, z0, -, -, -⟩ := at_row HR.out P.out.be 0 (by omega) (by omega); subst e_; have z1 : v1.cell? ad = some (.int .i64 (m : Int)) := (by have h_ := z0; rw [show rd_T31 l 0 = l.getD 0 z31 from rfl, HN.out] at h_; simpa [Addr.add] using h_); clear z0)
    | ((with_reducible refine gate_dst (N := 31) rfl ?_); refine Kd.R_make (Kd.int .i64) _ 3 rfl (N := 31) rfl 74 _ _ rfl (m : Int) rfl rfl Try.underlying74 (.int .i64 0) 8 (by kernel_rfl) rfl (by decide) (by omega) (0 : Int) (ok := fun _ => True) (okp := fun _ => True) rfl (fun _ hk => hk) trivial (by omega) (by omega) (Below.refl _ _) (Nat.le_refl _) ?_; intro v_ v2 hR hb hg_ hn_; clear hg_ hn_ z1; rw [Int.toNat_natCast] at hR; have ho_ := own_less (Kd.own_of_R hR) P.out.be.size; obtain ⟨A_s, c_s, e_, -, -⟩ := Kd.R_reads hR; rw [List.length_replicate] at e_; subst e_; rw [List.length_replicate, mp_zero] at ho_; have HO := Aside0.mk ho_; have P2 := P.out.on hb; clear hb hR ho_ P; have P := Aside0.mk P2; clear P2))
  go_loopg [8] l.length (fun q_ s8 wr => ∃ j : Int, s8 = .int .i64 j ∧ Aside0 (0 ≤ j ∧ j ≤ l.length ∧ (q_ : Int) = l.length - j) ∧ Aside0 (CS w wr b r (cells4 0 (.slice none 0 0) (.slice none 0 0) (.slice none 0 0) (.slice none 0 0)) []) ∧ Aside0 (wr.ownsRow w.heap.size 3 1 (.slice A_s m c_s) m (nums .i64 (mp m fun i => (cntTo bt i j.toNat : Int)))))
  case atStart => exact ⟨0, rfl, ⟨by omega, by omega, by omega⟩, P, HO⟩
  case round =>
    clear P HO
    obtain ⟨j, rfl, HJ, P, HO⟩ := hrel
    by_cases qj : j < l.length
    · have pj : 0 ≤ j := HJ.out.1
      go_wp2
      go_loopg [9] m (fun q2_ s9 wx => ∃ y : Int, s9 = .int .i64 y ∧ Aside0 (0 ≤ y ∧ y ≤ m ∧ (q2_ : Int) = m - y) ∧ Aside0 (CS w wx b r (cells4 0 (.slice none 0 0) (.slice none 0 0) (.slice none 0 0) (.slice none 0 0)) []) ∧ Aside0 (wx.ownsRow w.heap.size 3 1 (.slice A_s m c_s) m (nums .i64 (mp m fun i => if i < y.toNat then (cntTo bt i (j.toNat + 1) : Int) else (cntTo bt i j.toNat : Int)))))
      case atStart => exact ⟨0, rfl, ⟨by omega, by omega, by omega⟩, P, HO⟩
      case round =>
        clear P HO
        obtain ⟨y, rfl, HY, P, HO⟩ := hrel
        by_cases qy : y < m
        · have py : 0 ≤ y := HY.out.1
          obtain ⟨g, e_⟩ := own_some' HO.out (by omega)
          subst e_
          obtain ⟨ad', Aj, cj, e_, y0_, y1_, hle, hCj⟩ := at_row HR.out P.out.be j pj qj
          cases e_
          have hbt := HB.out j.toNat y.toNat (by omega) (by omega)
          rw [Int.toNat_of_nonneg py, show l.getD j.toNat z31 = rd_T31 l j from rfl] at hbt
          have HBT := Aside0.mk hbt
          have HCJ := Aside0.mk hCj
          have HLE := Aside0.mk hle
          obtain ⟨bv, hbv⟩ : ∃ q, bt j.toNat y.toNat = q := ⟨_, rfl⟩
          have HBV := Aside0.mk hbv
          rw [hbv] at HBT
          obtain ⟨N_, W_⟩ := rd_T31 l j
          clear hbt hbv hCj hle
          have c4 := cntTo_le bt y.toNat j.toNat
          obtain ⟨cv, hcv⟩ : ∃ q : Nat, cntTo bt y.toNat j.toNat = q := ⟨_, rfl⟩
          have HCV := Aside0.mk hcv
          rw [hcv] at c4
          clear hcv
          cases bv with
          | true =>
            go_wp2_with (go_at_call 52; have P1 := P.out; with_reducible refine (PB.vivariumref02_bit.calls _ _ _ _ y true _ (Kd.C_below HCJ.out P1.be) HLE.out HBT.out).mono ?_; rintro er_ wz ⟨rfl, hb⟩; have P2 := P1.on hb; have HO2 := Aside0.mk (pw_own_below HO.out hb); clear HO hb P1 P y0_ y1_; have P := Aside0.mk P2; clear P2; have sc_ : wz.cell? ⟨g, y.toNat, none⟩ = some (.int .i64 (cv : Int)) := (own_cell HO2.out y.toNat _ (by rw [nums, List.getElem?_map, mp_get _ (by omega)]; simp [HCV.out])); have sf_ := own_free HO2.out y.toNat)
            go_roundg (m - (y + 1).toNat)
            case measure => go_light; have := HY.out; omega
            case rel =>
              go_light
              obtain ⟨hw_, cc_, hb_⟩ := own_block HO2.out g rfl
              refine ⟨y + 1, by have hw : wrap64 (y + 1) = y + 1 := (by unfold wrap64; omega); first | rfl | (rw [hw]; done) | (simp [hw]; done), ⟨by omega, by omega, by omega⟩, ⟨P.out.other hb_ hw_ (by decide) (by decide)⟩, ⟨?_⟩⟩
              have h2 := own_put_int rfl HO2.out y.toNat ((cv : Int) + 1)
              rw [mp_set] at h2
              rw [mp_congr (g := fun i => if i < (y + 1).toNat then (cntTo bt i (j.toNat + 1) : Int) else (cntTo bt i j.toNat : Int))] at h2
              · exact h2
              · intro i hi
                by_cases e : i = y.toNat
                · subst e
                  rw [if_pos rfl, if_pos (by omega)]
                  unfold cntTo
                  rw [HCV.out, HBV.out]
                  simp
                · rw [if_neg e]
                  by_cases h3 : i < y.toNat
                  · rw [if_pos h3, if_pos (by omega)]
                  · rw [if_neg h3, if_neg (by omega)]
          | false =>
            go_wp2_with (go_at_call 52; have P1 := P.out; with_reducible refine (PB.vivariumref02_bit.calls _ _ _ _ y false _ (Kd.C_below HCJ.out P1.be) HLE.out HBT.out).mono ?_; rintro er_ wz ⟨rfl, hb⟩; have P2 := P1.on hb; have HO2 := Aside0.mk (pw_own_below HO.out hb); clear HO hb P1 P y0_ y1_; have P := Aside0.mk P2; clear P2)
            go_roundg (m - (y + 1).toNat)
            case measure => go_light; have := HY.out; omega
            case rel =>
              go_light
              refine ⟨y + 1, by have hw : wrap64 (y + 1) = y + 1 := (by unfold wrap64; omega); first | rfl | (rw [hw]; done) | (simp [hw]; done), ⟨by omega, by omega, by omega⟩, P, ⟨?_⟩⟩
              have h2 := HO2.out
              rw [mp_congr (g := fun i => if i < (y + 1).toNat then (cntTo bt i (j.toNat + 1) : Int) else (cntTo bt i j.toNat : Int))] at h2
              · exact h2
              · intro i hi
                by_cases e : i = y.toNat
                · subst e
                  rw [if_neg (by omega), if_pos (by omega), show cntTo bt y.toNat (j.toNat + 1) = cntTo bt y.toNat j.toNat + (if bt j.toNat y.toNat then 1 else 0) from rfl, HBV.out]
                  simp
                · by_cases h3 : i < y.toNat
                  · rw [if_pos h3, if_pos (by omega)]
                  · rw [if_neg h3, if_neg (by omega)]
        · have hy : y = m := by have := HY.out; omega
          subst hy
          go_wp2
          go_roundg (l.length - (j + 1).toNat)
          case measure => go_light; have := HJ.out; omega
          case rel =>
            go_light
            refine ⟨j + 1, by have hw : wrap64 (j + 1) = j + 1 := (by unfold wrap64; omega); first | rfl | (rw [hw]; done) | (simp [hw]; done), ⟨by omega, by omega, by omega⟩, P, ⟨?_⟩⟩
            have h2 := HO.out
            rw [mp_congr (g := fun i => (cntTo bt i (j + 1).toNat : Int))] at h2
            · exact h2
            · intro i hi
              rw [if_pos (by omega), show (j + 1).toNat = j.toNat + 1 by omega]
    · have hj : j = l.length := by have := HJ.out; omega
      subst hj
      go_wp2
      refine wp_loop_rounds 5 ?_
      replace HO := Aside0.mk (show wr.ownsRow w.heap.size 3 1 (.slice A_s m c_s) m (nums .i64 (mp m fun i => ((cntTo bt i l.length / 2 ^ 0 : Nat) : Int))) from by have h2 := HO.out; rw [Int.toNat_natCast] at h2; simpa using h2)
      rw [rounds_succ]
      go_wp2_with ((with_reducible refine gate_dst (N := 60) rfl ?_); refine Kd.R_make Kd.bool _ 4 rfl (N := 60) rfl 35 _ _ rfl (m : Int) rfl rfl Try.underlying35 (.bool false) 1 (by kernel_rfl) rfl (by decide) (by omega) false (ok := fun _ => True) (okp := fun _ => True) rfl (fun _ hk => hk) trivial (by omega) (by omega) (Below.refl _ _) (Nat.le_refl _) ?_; intro v_ wb0 hR hb hg_ hn_; clear hg_ hn_; rw [Int.toNat_natCast] at hR; have ho_ := own_less (own_of_R_bit hR) P.out.be.size; obtain ⟨A_b0, c_b0, e_, -, -⟩ := Kd.R_reads hR; rw [List.length_replicate] at e_; subst e_; rw [List.length_replicate, ← RefPlain.doneTo_zero m (digit bt l.length 0)] at ho_; have HV := Aside0.mk ho_; have P2 := P.out.on hb; have HO2 := Aside0.mk (pw_own_below HO.out hb); clear hb hR ho_ P HO; have P := Aside0.mk P2; have HO := HO2; clear P2 HO2)
      go_loopg [12] m (fun q2_ s12 wx => ∃ y : Int, s12 = .int .i64 y ∧ Aside0 (0 ≤ y ∧ y ≤ m ∧ (q2_ : Int) = m - y) ∧ Aside0 (CS w wx b r [.int .i64 0, .slice none 0 0, .int .i64 0, .slice none 0 0, .int .i64 0, .slice none 0 0, .int .i64 0, .slice none 0 0] []) ∧ Aside0 (wx.ownsRow w.heap.size 3 1 (.slice A_s m c_s) m (nums .i64 (mp m fun i => if i < y.toNat then ((cntTo bt i l.length / 2 ^ 1 : Nat) : Int) else ((cntTo bt i l.length / 2 ^ 0 : Nat) : Int)))) ∧ Aside0 (wx.ownsRow w.heap.size 4 1 (.slice A_b0 m c_b0) m (bools (RefPlain.doneTo m y.toNat (digit bt l.length 0) (fun _ => false)))))
      case atStart => exact ⟨0, rfl, ⟨by omega, by omega, by omega⟩, P, HO, HV⟩
      case round =>
        clear P HO HV
        obtain ⟨y, rfl, HY, P, HO, HV⟩ := hrel
        by_cases qy : y < m
        · have py : 0 ≤ y := HY.out.1
          obtain ⟨g, e_⟩ := own_some' HO.out (by omega)
          subst e_
          obtain ⟨gb, e_⟩ := own_some' HV.out (by omega)
          subst e_
          have c4 := cntTo_le bt y.toNat l.length
          have c5 : cntTo bt y.toNat l.length / 2 ^ 0 ≤ cntTo bt y.toNat l.length := Nat.div_le_self _ _
          obtain ⟨cv, hcv⟩ : ∃ q : Nat, cntTo bt y.toNat l.length / 2 ^ 0 = q := ⟨_, rfl⟩
          have HCV := Aside0.mk hcv
          rw [hcv] at c5
          have c6 : cv ≤ 15 := by omega
          clear hcv c4 c5
          have sc_ : wr.cell? ⟨g, y.toNat, none⟩ = some (.int .i64 (cv : Int)) := own_cell HO.out y.toNat _ (by rw [nums, List.getElem?_map, mp_get _ (by omega)]; simp [HCV.out])
          have sf_ := own_free HO.out y.toNat
          have bc_ : wr.cell? ⟨gb, y.toNat, none⟩ = some (.bool false) := own_cell HV.out y.toNat _ (by rw [bools, List.getElem?_map, RefPlain.doneTo_get _ _ (by omega)]; simp)
          have bf_ := own_free HV.out y.toNat
          have ne_ : g ≠ gb := by
            rintro rfl
            obtain ⟨_, _, h1_⟩ := own_block HO.out g rfl
            obtain ⟨_, _, h2_⟩ := own_block HV.out g rfl
            rw [h1_] at h2_
            injection h2_ with h2_
            injection h2_ with _ h2_
            exact absurd h2_ (by decide)
          have ne2_ := ne_.symm
          go_wp2
          go_roundg (m - (y + 1).toNat)
          case measure => go_light; have := HY.out; omega
          case rel =>
            go_light
            obtain ⟨hwg, _, hbg⟩ := own_block HO.out g rfl
            obtain ⟨hwb, _, hbb⟩ := own_block HV.out gb rfl
            have P1 := P.out.other (i := y.toNat) (u := .bool ((cv : Int) % 2 == 1)) hbb hwb (by decide) (by decide)
            have hbg2 := (Below.heap_setCell wr ⟨gb, y.toNat, none⟩ (.bool ((cv : Int) % 2 == 1)) g ne_).trans hbg
            have h1 := own_put_int rfl (own_set_other (i := y.toNat) (u := .bool ((cv : Int) % 2 == 1)) HO.out hbb (by decide)) y.toNat ((cv : Int) / 2)
            have h2 := own_set_other (i := y.toNat) (u := .int .i64 ((cv : Int) / 2)) (own_put_bool rfl HV.out y.toNat ((cv : Int) % 2 == 1)) hbg2 (by decide)
            refine ⟨y + 1, rfl, ⟨by omega, by omega, by omega⟩, ⟨P1.other hbg2 hwg (by decide) (by decide)⟩, ⟨?_⟩, ⟨?_⟩⟩
            · rw [mp_set] at h1
              rw [mp_congr (g := fun i => if i < (y + 1).toNat then ((cntTo bt i l.length / 2 ^ 1 : Nat) : Int) else ((cntTo bt i l.length / 2 ^ 0 : Nat) : Int))] at h1
              · exact h1
              · intro i hi
                by_cases e : i = y.toNat
                · subst e
                  rw [if_pos rfl, if_pos (by omega), show cntTo bt y.toNat l.length / 2 ^ 1 = cntTo bt y.toNat l.length / 2 ^ 0 / 2 by rw [Nat.div_div_eq_div_mul], HCV.out]
                  omega
                · rw [if_neg e]
                  by_cases h3 : i < y.toNat
                  · rw [if_pos h3, if_pos (by omega)]
                  · rw [if_neg h3, if_neg (by omega)]
            · have e3 : ((cv : Int) % 2 == 1) = digit bt l.length 0 y.toNat := by unfold digit; rw [HCV.out, Bool.eq_iff_iff]; simp; omega
              have e4 : (RefPlain.doneTo m y.toNat (digit bt l.length 0) (fun _ => false)).set y.toNat ((cv : Int) % 2 == 1) = RefPlain.doneTo m (y.toNat + 1) (digit bt l.length 0) (fun _ => false) := by rw [e3]; exact RefPlain.doneTo_set _ _ (by omega)
              rw [e4] at h2
              rwa [show (y + 1).toNat = y.toNat + 1 by omega]
        · have hy : y = m := by have := HY.out; omega
          have h1 := HO.out
          have h2 := HV.out
          rw [hy, Int.toNat_natCast] at h1 h2
          rw [mp_congr (g := fun i => ((cntTo bt i l.length / 2 ^ 1 : Nat) : Int)) (fun i hi => by rw [if_pos hi])] at h1
          have hd : digits bt m l.length 0 = RefPlain.doneTo m m (digit bt l.length 0) (fun _ => false) := rfl
          rw [← hd] at h2
          clear HO HV hd
          have HO := Aside0.mk h1
          have HV := Aside0.mk h2
          clear h1 h2
          subst hy
          go_wp2_with (go_at_call 48; have P1 := P.out; have h_ := PB.vivariumref02_Row.calls k A_b0 c_b0 (digits bt m l.length 0) (m : Int) V0 wr (bit_C' digits_len HV.out) (by rw [digits_len]; exact own_le HV.out) HE0.out; rw [digits_len] at h_; with_reducible refine h_.mono ?_; clear h_; rintro er_ u0 ⟨t_, rfl, hR, hb⟩; obtain ⟨A_0, c_0, e_, -, -⟩ := Kd.R_reads hR; subst e_; have P2 := P1.told hb hR; have HO2 := Aside0.mk (pw_own_below HO.out hb); clear hb hR P P1 HO HV; have P := Aside0.mk P2; have HO := HO2; clear P2 HO2; have x_0 := P.out.at_.2 0 _ rfl; have f_0 := blk_frozen P.out.bx 0; have x_1 := P.out.at_.2 1 _ rfl; have f_1 := blk_frozen P.out.bx 1; have x_2 := P.out.at_.2 2 _ rfl; have f_2 := blk_frozen P.out.bx 2; have x_3 := P.out.at_.2 3 _ rfl; have f_3 := blk_frozen P.out.bx 3; have x_4 := P.out.at_.2 4 _ rfl; have f_4 := blk_frozen P.out.bx 4; have x_5 := P.out.at_.2 5 _ rfl; have f_5 := blk_frozen P.out.bx 5; have x_6 := P.out.at_.2 6 _ rfl; have f_6 := blk_frozen P.out.bx 6; have x_7 := P.out.at_.2 7 _ rfl; have f_7 := blk_frozen P.out.bx 7)
          have hb_ := P.out.bx
          have P2 : CS w _ b r [.int .i64 (m : Int), .slice A_0 V0.length c_0, .int .i64 0, .slice none 0 0, .int .i64 0, .slice none 0 0, .int .i64 0, .slice none 0 0] [(.slice A_0 V0.length c_0, V0)] := P.out.put 0 (.int .i64 (m : Int)) (.slice A_0 V0.length c_0) (by simp [cells4])
          have HO2 := Aside0.mk (own_set_other (i := 1) (u := .slice A_0 V0.length c_0) (own_set_other (i := 0) (u := .int .i64 (m : Int)) HO.out hb_ (by decide)) (blk_put hb_ 0 (.int .i64 (m : Int)) rfl) (by decide))
          clear x_0 f_0 x_1 f_1 x_2 f_2 x_3 f_3 x_4 f_4 x_5 f_5 x_6 f_6 x_7 f_7 hb_ P HO
          have P := Aside0.mk P2
          have HO := HO2
          clear P2 HO2
          generalize (World.setCell _ _ _).setCell _ _ = w0 at P HO ⊢
          rw [rounds_succ]
          go_wp2_with ((with_reducible refine gate_dst (N := 60) rfl ?_); refine Kd.R_make Kd.bool _ 4 rfl (N := 60) rfl 35 _ _ rfl (m : Int) rfl rfl Try.underlying35 (.bool false) 1 (by kernel_rfl) rfl (by decide) (by omega) false (ok := fun _ => True) (okp := fun _ => True) rfl (fun _ hk => hk) trivial (by omega) (by omega) (Below.refl _ _) (Nat.le_refl _) ?_; intro v_ wb1 hR hb hg_ hn_; clear hg_ hn_; rw [Int.toNat_natCast] at hR; have ho_ := own_less (own_of_R_bit hR) P.out.be.size; obtain ⟨A_b1, c_b1, e_, -, -⟩ := Kd.R_reads hR; rw [List.length_replicate] at e_; subst e_; rw [List.length_replicate, ← RefPlain.doneTo_zero m (digit bt l.length 1)] at ho_; have HV := Aside0.mk ho_; have P2 := P.out.on hb; have HO2 := Aside0.mk (pw_own_below HO.out hb); clear hb hR ho_ P HO; have P := Aside0.mk P2; have HO := HO2; clear P2 HO2)
          go_loopg [12] m (fun q2_ s12 wx => ∃ y : Int, s12 = .int .i64 y ∧ Aside0 (0 ≤ y ∧ y ≤ m ∧ (q2_ : Int) = m - y) ∧ Aside0 (CS w wx b r [.int .i64 (m : Int), .slice A_0 V0.length c_0, .int .i64 0, .slice none 0 0, .int .i64 0, .slice none 0 0, .int .i64 0, .slice none 0 0] [(.slice A_0 V0.length c_0, V0)]) ∧ Aside0 (wx.ownsRow w.heap.size 3 1 (.slice A_s m c_s) m (nums .i64 (mp m fun i => if i < y.toNat then ((cntTo bt i l.length / 2 ^ 2 : Nat) : Int) else ((cntTo bt i l.length / 2 ^ 1 : Nat) : Int)))) ∧ Aside0 (wx.ownsRow w.heap.size 4 1 (.slice A_b1 m c_b1) m (bools (RefPlain.doneTo m y.toNat (digit bt l.length 1) (fun _ => false)))))
          case atStart => exact ⟨0, rfl, ⟨by omega, by omega, by omega⟩, P, HO, HV⟩
          case round =>
            clear P HO HV
            obtain ⟨y, rfl, HY, P, HO, HV⟩ := hrel
            by_cases qy : y < m
            · have py : 0 ≤ y := HY.out.1
              obtain ⟨g, e_⟩ := own_some' HO.out (by omega)
              subst e_
              obtain ⟨gb, e_⟩ := own_some' HV.out (by omega)
              subst e_
              have c4 := cntTo_le bt y.toNat l.length
              have c5 : cntTo bt y.toNat l.length / 2 ^ 1 ≤ cntTo bt y.toNat l.length := Nat.div_le_self _ _
              obtain ⟨cv, hcv⟩ : ∃ q : Nat, cntTo bt y.toNat l.length / 2 ^ 1 = q := ⟨_, rfl⟩
              have HCV := Aside0.mk hcv
              rw [hcv] at c5
              have c6 : cv ≤ 15 := by omega
              clear hcv c4 c5
              have sc_ : wr.cell? ⟨g, y.toNat, none⟩ = some (.int .i64 (cv : Int)) := own_cell HO.out y.toNat _ (by rw [nums, List.getElem?_map, mp_get _ (by omega)]; simp [HCV.out])
              have sf_ := own_free HO.out y.toNat
              have bc_ : wr.cell? ⟨gb, y.toNat, none⟩ = some (.bool false) := own_cell HV.out y.toNat _ (by rw [bools, List.getElem?_map, RefPlain.doneTo_get _ _ (by omega)]; simp)
              have bf_ := own_free HV.out y.toNat
              have ne_ : g ≠ gb := by
                rintro rfl
                obtain ⟨_, _, h1_⟩ := own_block HO.out g rfl
                obtain ⟨_, _, h2_⟩ := own_block HV.out g rfl
                rw [h1_] at h2_
                injection h2_ with h2_
                injection h2_ with _ h2_
                exact absurd h2_ (by decide)
              have ne2_ := ne_.symm
              go_wp2
              go_roundg (m - (y + 1).toNat)
              case measure => go_light; have := HY.out; omega
              case rel =>
                go_light
                obtain ⟨hwg, _, hbg⟩ := own_block HO.out g rfl
                obtain ⟨hwb, _, hbb⟩ := own_block HV.out gb rfl
                have P1 := P.out.other (i := y.toNat) (u := .bool ((cv : Int) % 2 == 1)) hbb hwb (by decide) (by decide)
                have hbg2 := (Below.heap_setCell wr ⟨gb, y.toNat, none⟩ (.bool ((cv : Int) % 2 == 1)) g ne_).trans hbg
                have h1 := own_put_int rfl (own_set_other (i := y.toNat) (u := .bool ((cv : Int) % 2 == 1)) HO.out hbb (by decide)) y.toNat ((cv : Int) / 2)
                have h2 := own_set_other (i := y.toNat) (u := .int .i64 ((cv : Int) / 2)) (own_put_bool rfl HV.out y.toNat ((cv : Int) % 2 == 1)) hbg2 (by decide)
                refine ⟨y + 1, rfl, ⟨by omega, by omega, by omega⟩, ⟨P1.other hbg2 hwg (by decide) (by decide)⟩, ⟨?_⟩, ⟨?_⟩⟩
                · rw [mp_set] at h1
                  rw [mp_congr (g := fun i => if i < (y + 1).toNat then ((cntTo bt i l.length / 2 ^ 2 : Nat) : Int) else ((cntTo bt i l.length / 2 ^ 1 : Nat) : Int))] at h1
                  · exact h1
                  · intro i hi
                    by_cases e : i = y.toNat
                    · subst e
                      rw [if_pos rfl, if_pos (by omega), show cntTo bt y.toNat l.length / 2 ^ 2 = cntTo bt y.toNat l.length / 2 ^ 1 / 2 by rw [Nat.div_div_eq_div_mul], HCV.out]
                      omega
                    · rw [if_neg e]
                      by_cases h3 : i < y.toNat
                      · rw [if_pos h3, if_pos (by omega)]
                      · rw [if_neg h3, if_neg (by omega)]
                · have e3 : ((cv : Int) % 2 == 1) = digit bt l.length 1 y.toNat := by unfold digit; rw [HCV.out, Bool.eq_iff_iff]; simp; omega
                  have e4 : (RefPlain.doneTo m y.toNat (digit bt l.length 1) (fun _ => false)).set y.toNat ((cv : Int) % 2 == 1) = RefPlain.doneTo m (y.toNat + 1) (digit bt l.length 1) (fun _ => false) := by rw [e3]; exact RefPlain.doneTo_set _ _ (by omega)
                  rw [e4] at h2
                  rwa [show (y + 1).toNat = y.toNat + 1 by omega]
            · have hy : y = m := by have := HY.out; omega
              have h1 := HO.out
              have h2 := HV.out
              rw [hy, Int.toNat_natCast] at h1 h2
              rw [mp_congr (g := fun i => ((cntTo bt i l.length / 2 ^ 2 : Nat) : Int)) (fun i hi => by rw [if_pos hi])] at h1
              have hd : digits bt m l.length 1 = RefPlain.doneTo m m (digit bt l.length 1) (fun _ => false) := rfl
              rw [← hd] at h2
              clear HO HV hd
              have HO := Aside0.mk h1
              have HV := Aside0.mk h2
              clear h1 h2
              subst hy
              go_wp2_with (go_at_call 48; have P1 := P.out; have h_ := PB.vivariumref02_Row.calls k A_b1 c_b1 (digits bt m l.length 1) (m : Int) V1 wr (bit_C' digits_len HV.out) (by rw [digits_len]; exact own_le HV.out) HE1.out; rw [digits_len] at h_; with_reducible refine h_.mono ?_; clear h_; rintro er_ u1 ⟨t_, rfl, hR, hb⟩; obtain ⟨A_1, c_1, e_, -, -⟩ := Kd.R_reads hR; subst e_; have P2 := P1.told hb hR; have HO2 := Aside0.mk (pw_own_below HO.out hb); clear hb hR P P1 HO HV; have P := Aside0.mk P2; have HO := HO2; clear P2 HO2; have x_0 := P.out.at_.2 0 _ rfl; have f_0 := blk_frozen P.out.bx 0; have x_1 := P.out.at_.2 1 _ rfl; have f_1 := blk_frozen P.out.bx 1; have x_2 := P.out.at_.2 2 _ rfl; have f_2 := blk_frozen P.out.bx 2; have x_3 := P.out.at_.2 3 _ rfl; have f_3 := blk_frozen P.out.bx 3; have x_4 := P.out.at_.2 4 _ rfl; have f_4 := blk_frozen P.out.bx 4; have x_5 := P.out.at_.2 5 _ rfl; have f_5 := blk_frozen P.out.bx 5; have x_6 := P.out.at_.2 6 _ rfl; have f_6 := blk_frozen P.out.bx 6; have x_7 := P.out.at_.2 7 _ rfl; have f_7 := blk_frozen P.out.bx 7)
              have hb_ := P.out.bx
              have P2 : CS w _ b r [.int .i64 (m : Int), .slice A_0 V0.length c_0, .int .i64 (m : Int), .slice A_1 V1.length c_1, .int .i64 0, .slice none 0 0, .int .i64 0, .slice none 0 0] [(.slice A_0 V0.length c_0, V0), (.slice A_1 V1.length c_1, V1)] := P.out.put 2 (.int .i64 (m : Int)) (.slice A_1 V1.length c_1) (by simp [cells4])
              have HO2 := Aside0.mk (own_set_other (i := 3) (u := .slice A_1 V1.length c_1) (own_set_other (i := 2) (u := .int .i64 (m : Int)) HO.out hb_ (by decide)) (blk_put hb_ 2 (.int .i64 (m : Int)) rfl) (by decide))
              clear x_0 f_0 x_1 f_1 x_2 f_2 x_3 f_3 x_4 f_4 x_5 f_5 x_6 f_6 x_7 f_7 hb_ P HO
              have P := Aside0.mk P2
              have HO := HO2
              clear P2 HO2
              generalize (World.setCell _ _ _).setCell _ _ = w1 at P HO ⊢
              rw [rounds_succ]
              go_wp2_with ((with_reducible refine gate_dst (N := 60) rfl ?_); refine Kd.R_make Kd.bool _ 4 rfl (N := 60) rfl 35 _ _ rfl (m : Int) rfl rfl Try.underlying35 (.bool false) 1 (by kernel_rfl) rfl (by decide) (by omega) false (ok := fun _ => True) (okp := fun _ => True) rfl (fun _ hk => hk) trivial (by omega) (by omega) (Below.refl _ _) (Nat.le_refl _) ?_; intro v_ wb2 hR hb hg_ hn_; clear hg_ hn_; rw [Int.toNat_natCast] at hR; have ho_ := own_less (own_of_R_bit hR) P.out.be.size; obtain ⟨A_b2, c_b2, e_, -, -⟩ := Kd.R_reads hR; rw [List.length_replicate] at e_; subst e_; rw [List.length_replicate, ← RefPlain.doneTo_zero m (digit bt l.length 2)] at ho_; have HV := Aside0.mk ho_; have P2 := P.out.on hb; have HO2 := Aside0.mk (pw_own_below HO.out hb); clear hb hR ho_ P HO; have P := Aside0.mk P2; have HO := HO2; clear P2 HO2)
              go_loopg [12] m (fun q2_ s12 wx => ∃ y : Int, s12 = .int .i64 y ∧ Aside0 (0 ≤ y ∧ y ≤ m ∧ (q2_ : Int) = m - y) ∧ Aside0 (CS w wx b r [.int .i64 (m : Int), .slice A_0 V0.length c_0, .int .i64 (m : Int), .slice A_1 V1.length c_1, .int .i64 0, .slice none 0 0, .int .i64 0, .slice none 0 0] [(.slice A_0 V0.length c_0, V0), (.slice A_1 V1.length c_1, V1)]) ∧ Aside0 (wx.ownsRow w.heap.size 3 1 (.slice A_s m c_s) m (nums .i64 (mp m fun i => if i < y.toNat then ((cntTo bt i l.length / 2 ^ 3 : Nat) : Int) else ((cntTo bt i l.length / 2 ^ 2 : Nat) : Int)))) ∧ Aside0 (wx.ownsRow w.heap.size 4 1 (.slice A_b2 m c_b2) m (bools (RefPlain.doneTo m y.toNat (digit bt l.length 2) (fun _ => false)))))
              case atStart => exact ⟨0, rfl, ⟨by omega, by omega, by omega⟩, P, HO, HV⟩
              case round =>
                clear P HO HV
                obtain ⟨y, rfl, HY, P, HO, HV⟩ := hrel
                by_cases qy : y < m
                · have py : 0 ≤ y := HY.out.1
                  obtain ⟨g, e_⟩ := own_some' HO.out (by omega)
                  subst e_
                  obtain ⟨gb, e_⟩ := own_some' HV.out (by omega)
                  subst e_
                  have c4 := cntTo_le bt y.toNat l.length
                  have c5 : cntTo bt y.toNat l.length / 2 ^ 2 ≤ cntTo bt y.toNat l.length := Nat.div_le_self _ _
                  obtain ⟨cv, hcv⟩ : ∃ q : Nat, cntTo bt y.toNat l.length / 2 ^ 2 = q := ⟨_, rfl⟩
                  have HCV := Aside0.mk hcv
                  rw [hcv] at c5
                  have c6 : cv ≤ 15 := by omega
                  clear hcv c4 c5
                  have sc_ : wr.cell? ⟨g, y.toNat, none⟩ = some (.int .i64 (cv : Int)) := own_cell HO.out y.toNat _ (by rw [nums, List.getElem?_map, mp_get _ (by omega)]; simp [HCV.out])
                  have sf_ := own_free HO.out y.toNat
                  have bc_ : wr.cell? ⟨gb, y.toNat, none⟩ = some (.bool false) := own_cell HV.out y.toNat _ (by rw [bools, List.getElem?_map, RefPlain.doneTo_get _ _ (by omega)]; simp)
                  have bf_ := own_free HV.out y.toNat
                  have ne_ : g ≠ gb := by
                    rintro rfl
                    obtain ⟨_, _, h1_⟩ := own_block HO.out g rfl
                    obtain ⟨_, _, h2_⟩ := own_block HV.out g rfl
                    rw [h1_] at h2_
                    injection h2_ with h2_
                    injection h2_ with _ h2_
                    exact absurd h2_ (by decide)
                  have ne2_ := ne_.symm
                  go_wp2
                  go_roundg (m - (y + 1).toNat)
                  case measure => go_light; have := HY.out; omega
                  case rel =>
                    go_light
                    obtain ⟨hwg, _, hbg⟩ := own_block HO.out g rfl
                    obtain ⟨hwb, _, hbb⟩ := own_block HV.out gb rfl
                    have P1 := P.out.other (i := y.toNat) (u := .bool ((cv : Int) % 2 == 1)) hbb hwb (by decide) (by decide)
                    have hbg2 := (Below.heap_setCell wr ⟨gb, y.toNat, none⟩ (.bool ((cv : Int) % 2 == 1)) g ne_).trans hbg
                    have h1 := own_put_int rfl (own_set_other (i := y.toNat) (u := .bool ((cv : Int) % 2 == 1)) HO.out hbb (by decide)) y.toNat ((cv : Int) / 2)
                    have h2 := own_set_other (i := y.toNat) (u := .int .i64 ((cv : Int) / 2)) (own_put_bool rfl HV.out y.toNat ((cv : Int) % 2 == 1)) hbg2 (by decide)
                    refine ⟨y + 1, rfl, ⟨by omega, by omega, by omega⟩, ⟨P1.other hbg2 hwg (by decide) (by decide)⟩, ⟨?_⟩, ⟨?_⟩⟩
                    · rw [mp_set] at h1
                      rw [mp_congr (g := fun i => if i < (y + 1).toNat then ((cntTo bt i l.length / 2 ^ 3 : Nat) : Int) else ((cntTo bt i l.length / 2 ^ 2 : Nat) : Int))] at h1
                      · exact h1
                      · intro i hi
                        by_cases e : i = y.toNat
                        · subst e
                          rw [if_pos rfl, if_pos (by omega), show cntTo bt y.toNat l.length / 2 ^ 3 = cntTo bt y.toNat l.length / 2 ^ 2 / 2 by rw [Nat.div_div_eq_div_mul], HCV.out]
                          omega
                        · rw [if_neg e]
                          by_cases h3 : i < y.toNat
                          · rw [if_pos h3, if_pos (by omega)]
                          · rw [if_neg h3, if_neg (by omega)]
                    · have e3 : ((cv : Int) % 2 == 1) = digit bt l.length 2 y.toNat := by unfold digit; rw [HCV.out, Bool.eq_iff_iff]; simp; omega
                      have e4 : (RefPlain.doneTo m y.toNat (digit bt l.length 2) (fun _ => false)).set y.toNat ((cv : Int) % 2 == 1) = RefPlain.doneTo m (y.toNat + 1) (digit bt l.length 2) (fun _ => false) := by rw [e3]; exact RefPlain.doneTo_set _ _ (by omega)
                      rw [e4] at h2
                      rwa [show (y + 1).toNat = y.toNat + 1 by omega]
                · have hy : y = m := by have := HY.out; omega
                  have h1 := HO.out
                  have h2 := HV.out
                  rw [hy, Int.toNat_natCast] at h1 h2
                  rw [mp_congr (g := fun i => ((cntTo bt i l.length / 2 ^ 3 : Nat) : Int)) (fun i hi => by rw [if_pos hi])] at h1
                  have hd : digits bt m l.length 2 = RefPlain.doneTo m m (digit bt l.length 2) (fun _ => false) := rfl
                  rw [← hd] at h2
                  clear HO HV hd
                  have HO := Aside0.mk h1
                  have HV := Aside0.mk h2
                  clear h1 h2
                  subst hy
                  go_wp2_with (go_at_call 48; have P1 := P.out; have h_ := PB.vivariumref02_Row.calls k A_b2 c_b2 (digits bt m l.length 2) (m : Int) V2 wr (bit_C' digits_len HV.out) (by rw [digits_len]; exact own_le HV.out) HE2.out; rw [digits_len] at h_; with_reducible refine h_.mono ?_; clear h_; rintro er_ u2 ⟨t_, rfl, hR, hb⟩; obtain ⟨A_2, c_2, e_, -, -⟩ := Kd.R_reads hR; subst e_; have P2 := P1.told hb hR; have HO2 := Aside0.mk (pw_own_below HO.out hb); clear hb hR P P1 HO HV; have P := Aside0.mk P2; have HO := HO2; clear P2 HO2; have x_0 := P.out.at_.2 0 _ rfl; have f_0 := blk_frozen P.out.bx 0; have x_1 := P.out.at_.2 1 _ rfl; have f_1 := blk_frozen P.out.bx 1; have x_2 := P.out.at_.2 2 _ rfl; have f_2 := blk_frozen P.out.bx 2; have x_3 := P.out.at_.2 3 _ rfl; have f_3 := blk_frozen P.out.bx 3; have x_4 := P.out.at_.2 4 _ rfl; have f_4 := blk_frozen P.out.bx 4; have x_5 := P.out.at_.2 5 _ rfl; have f_5 := blk_frozen P.out.bx 5; have x_6 := P.out.at_.2 6 _ rfl; have f_6 := blk_frozen P.out.bx 6; have x_7 := P.out.at_.2 7 _ rfl; have f_7 := blk_frozen P.out.bx 7)
                  have hb_ := P.out.bx
                  have P2 : CS w _ b r [.int .i64 (m : Int), .slice A_0 V0.length c_0, .int .i64 (m : Int), .slice A_1 V1.length c_1, .int .i64 (m : Int), .slice A_2 V2.length c_2, .int .i64 0, .slice none 0 0] [(.slice A_0 V0.length c_0, V0), (.slice A_1 V1.length c_1, V1), (.slice A_2 V2.length c_2, V2)] := P.out.put 4 (.int .i64 (m : Int)) (.slice A_2 V2.length c_2) (by simp [cells4])
                  have HO2 := Aside0.mk (own_set_other (i := 5) (u := .slice A_2 V2.length c_2) (own_set_other (i := 4) (u := .int .i64 (m : Int)) HO.out hb_ (by decide)) (blk_put hb_ 4 (.int .i64 (m : Int)) rfl) (by decide))
                  clear x_0 f_0 x_1 f_1 x_2 f_2 x_3 f_3 x_4 f_4 x_5 f_5 x_6 f_6 x_7 f_7 hb_ P HO
                  have P := Aside0.mk P2
                  have HO := HO2
                  clear P2 HO2
                  generalize (World.setCell _ _ _).setCell _ _ = w2 at P HO ⊢
                  rw [rounds_succ]
                  go_wp2_with ((with_reducible refine gate_dst (N := 60) rfl ?_); refine Kd.R_make Kd.bool _ 4 rfl (N := 60) rfl 35 _ _ rfl (m : Int) rfl rfl Try.underlying35 (.bool false) 1 (by kernel_rfl) rfl (by decide) (by omega) false (ok := fun _ => True) (okp := fun _ => True) rfl (fun _ hk => hk) trivial (by omega) (by omega) (Below.refl _ _) (Nat.le_refl _) ?_; intro v_ wb3 hR hb hg_ hn_; clear hg_ hn_; rw [Int.toNat_natCast] at hR; have ho_ := own_less (own_of_R_bit hR) P.out.be.size; obtain ⟨A_b3, c_b3, e_, -, -⟩ := Kd.R_reads hR; rw [List.length_replicate] at e_; subst e_; rw [List.length_replicate, ← RefPlain.doneTo_zero m (digit bt l.length 3)] at ho_; have HV := Aside0.mk ho_; have P2 := P.out.on hb; have HO2 := Aside0.mk (pw_own_below HO.out hb); clear hb hR ho_ P HO; have P := Aside0.mk P2; have HO := HO2; clear P2 HO2)
                  go_loopg [12] m (fun q2_ s12 wx => ∃ y : Int, s12 = .int .i64 y ∧ Aside0 (0 ≤ y ∧ y ≤ m ∧ (q2_ : Int) = m - y) ∧ Aside0 (CS w wx b r [.int .i64 (m : Int), .slice A_0 V0.length c_0, .int .i64 (m : Int), .slice A_1 V1.length c_1, .int .i64 (m : Int), .slice A_2 V2.length c_2, .int .i64 0, .slice none 0 0] [(.slice A_0 V0.length c_0, V0), (.slice A_1 V1.length c_1, V1), (.slice A_2 V2.length c_2, V2)]) ∧ Aside0 (wx.ownsRow w.heap.size 3 1 (.slice A_s m c_s) m (nums .i64 (mp m fun i => if i < y.toNat then ((cntTo bt i l.length / 2 ^ 4 : Nat) : Int) else ((cntTo bt i l.length / 2 ^ 3 : Nat) : Int)))) ∧ Aside0 (wx.ownsRow w.heap.size 4 1 (.slice A_b3 m c_b3) m (bools (RefPlain.doneTo m y.toNat (digit bt l.length 3) (fun _ => false)))))
                  case atStart => exact ⟨0, rfl, ⟨by omega, by omega, by omega⟩, P, HO, HV⟩
                  case round =>
                    clear P HO HV
                    obtain ⟨y, rfl, HY, P, HO, HV⟩ := hrel
                    by_cases qy : y < m
                    · have py : 0 ≤ y := HY.out.1
                      obtain ⟨g, e_⟩ := own_some' HO.out (by omega)
                      subst e_
                      obtain ⟨gb, e_⟩ := own_some' HV.out (by omega)
                      subst e_
                      have c4 := cntTo_le bt y.toNat l.length
                      have c5 : cntTo bt y.toNat l.length / 2 ^ 3 ≤ cntTo bt y.toNat l.length := Nat.div_le_self _ _
                      obtain ⟨cv, hcv⟩ : ∃ q : Nat, cntTo bt y.toNat l.length / 2 ^ 3 = q := ⟨_, rfl⟩
                      have HCV := Aside0.mk hcv
                      rw [hcv] at c5
                      have c6 : cv ≤ 15 := by omega
                      clear hcv c4 c5
                      have sc_ : wr.cell? ⟨g, y.toNat, none⟩ = some (.int .i64 (cv : Int)) := own_cell HO.out y.toNat _ (by rw [nums, List.getElem?_map, mp_get _ (by omega)]; simp [HCV.out])
                      have sf_ := own_free HO.out y.toNat
                      have bc_ : wr.cell? ⟨gb, y.toNat, none⟩ = some (.bool false) := own_cell HV.out y.toNat _ (by rw [bools, List.getElem?_map, RefPlain.doneTo_get _ _ (by omega)]; simp)
                      have bf_ := own_free HV.out y.toNat
                      have ne_ : g ≠ gb := by
                        rintro rfl
                        obtain ⟨_, _, h1_⟩ := own_block HO.out g rfl
                        obtain ⟨_, _, h2_⟩ := own_block HV.out g rfl
                        rw [h1_] at h2_
                        injection h2_ with h2_
                        injection h2_ with _ h2_
                        exact absurd h2_ (by decide)
                      have ne2_ := ne_.symm
                      go_wp2
                      go_roundg (m - (y + 1).toNat)
                      case measure => go_light; have := HY.out; omega
                      case rel =>
                        go_light
                        obtain ⟨hwg, _, hbg⟩ := own_block HO.out g rfl
                        obtain ⟨hwb, _, hbb⟩ := own_block HV.out gb rfl
                        have P1 := P.out.other (i := y.toNat) (u := .bool ((cv : Int) % 2 == 1)) hbb hwb (by decide) (by decide)
                        have hbg2 := (Below.heap_setCell wr ⟨gb, y.toNat, none⟩ (.bool ((cv : Int) % 2 == 1)) g ne_).trans hbg
                        have h1 := own_put_int rfl (own_set_other (i := y.toNat) (u := .bool ((cv : Int) % 2 == 1)) HO.out hbb (by decide)) y.toNat ((cv : Int) / 2)
                        have h2 := own_set_other (i := y.toNat) (u := .int .i64 ((cv : Int) / 2)) (own_put_bool rfl HV.out y.toNat ((cv : Int) % 2 == 1)) hbg2 (by decide)
                        refine ⟨y + 1, rfl, ⟨by omega, by omega, by omega⟩, ⟨P1.other hbg2 hwg (by decide) (by decide)⟩, ⟨?_⟩, ⟨?_⟩⟩
                        · rw [mp_set] at h1
                          rw [mp_congr (g := fun i => if i < (y + 1).toNat then ((cntTo bt i l.length / 2 ^ 4 : Nat) : Int) else ((cntTo bt i l.length / 2 ^ 3 : Nat) : Int))] at h1
                          · exact h1
                          · intro i hi
                            by_cases e : i = y.toNat
                            · subst e
                              rw [if_pos rfl, if_pos (by omega), show cntTo bt y.toNat l.length / 2 ^ 4 = cntTo bt y.toNat l.length / 2 ^ 3 / 2 by rw [Nat.div_div_eq_div_mul], HCV.out]
                              omega
                            · rw [if_neg e]
                              by_cases h3 : i < y.toNat
                              · rw [if_pos h3, if_pos (by omega)]
                              · rw [if_neg h3, if_neg (by omega)]
                        · have e3 : ((cv : Int) % 2 == 1) = digit bt l.length 3 y.toNat := by unfold digit; rw [HCV.out, Bool.eq_iff_iff]; simp; omega
                          have e4 : (RefPlain.doneTo m y.toNat (digit bt l.length 3) (fun _ => false)).set y.toNat ((cv : Int) % 2 == 1) = RefPlain.doneTo m (y.toNat + 1) (digit bt l.length 3) (fun _ => false) := by rw [e3]; exact RefPlain.doneTo_set _ _ (by omega)
                          rw [e4] at h2
                          rwa [show (y + 1).toNat = y.toNat + 1 by omega]
                    · have hy : y = m := by have := HY.out; omega
                      have h1 := HO.out
                      have h2 := HV.out
                      rw [hy, Int.toNat_natCast] at h1 h2
                      rw [mp_congr (g := fun i => ((cntTo bt i l.length / 2 ^ 4 : Nat) : Int)) (fun i hi => by rw [if_pos hi])] at h1
                      have hd : digits bt m l.length 3 = RefPlain.doneTo m m (digit bt l.length 3) (fun _ => false) := rfl
                      rw [← hd] at h2
                      clear HO HV hd
                      have HO := Aside0.mk h1
                      have HV := Aside0.mk h2
                      clear h1 h2
                      subst hy
                      go_wp2_with (go_at_call 48; have P1 := P.out; have h_ := PB.vivariumref02_Row.calls k A_b3 c_b3 (digits bt m l.length 3) (m : Int) V3 wr (bit_C' digits_len HV.out) (by rw [digits_len]; exact own_le HV.out) HE3.out; rw [digits_len] at h_; with_reducible refine h_.mono ?_; clear h_; rintro er_ u3 ⟨t_, rfl, hR, hb⟩; obtain ⟨A_3, c_3, e_, -, -⟩ := Kd.R_reads hR; subst e_; have P2 := P1.told hb hR; have HO2 := Aside0.mk (pw_own_below HO.out hb); clear hb hR P P1 HO HV; have P := Aside0.mk P2; have HO := HO2; clear P2 HO2; have x_0 := P.out.at_.2 0 _ rfl; have f_0 := blk_frozen P.out.bx 0; have x_1 := P.out.at_.2 1 _ rfl; have f_1 := blk_frozen P.out.bx 1; have x_2 := P.out.at_.2 2 _ rfl; have f_2 := blk_frozen P.out.bx 2; have x_3 := P.out.at_.2 3 _ rfl; have f_3 := blk_frozen P.out.bx 3; have x_4 := P.out.at_.2 4 _ rfl; have f_4 := blk_frozen P.out.bx 4; have x_5 := P.out.at_.2 5 _ rfl; have f_5 := blk_frozen P.out.bx 5; have x_6 := P.out.at_.2 6 _ rfl; have f_6 := blk_frozen P.out.bx 6; have x_7 := P.out.at_.2 7 _ rfl; have f_7 := blk_frozen P.out.bx 7)
                      have hb_ := P.out.bx
                      have P2 : CS w _ b r [.int .i64 (m : Int), .slice A_0 V0.length c_0, .int .i64 (m : Int), .slice A_1 V1.length c_1, .int .i64 (m : Int), .slice A_2 V2.length c_2, .int .i64 (m : Int), .slice A_3 V3.length c_3] [(.slice A_0 V0.length c_0, V0), (.slice A_1 V1.length c_1, V1), (.slice A_2 V2.length c_2, V2), (.slice A_3 V3.length c_3, V3)] := P.out.put 6 (.int .i64 (m : Int)) (.slice A_3 V3.length c_3) (by simp [cells4])
                      have HO2 := Aside0.mk (own_set_other (i := 7) (u := .slice A_3 V3.length c_3) (own_set_other (i := 6) (u := .int .i64 (m : Int)) HO.out hb_ (by decide)) (blk_put hb_ 6 (.int .i64 (m : Int)) rfl) (by decide))
                      clear x_0 f_0 x_1 f_1 x_2 f_2 x_3 f_3 x_4 f_4 x_5 f_5 x_6 f_6 x_7 f_7 hb_ P HO
                      have P := Aside0.mk P2
                      have HO := HO2
                      clear P2 HO2
                      generalize (World.setCell _ _ _).setCell _ _ = w3 at P HO ⊢
                      rw [rounds_succ]
                      have x_0 := P.out.at_.2 0 _ rfl
                      have z_0 : (w3).cell? ⟨r, 0, none⟩ = some (.int .i64 0) := (blk_cell P.out.rx 0).trans rfl
                      have f_0 := blk_frozen P.out.rx 0
                      have x_1 := P.out.at_.2 1 _ rfl
                      have z_1 : (w3).cell? ⟨r, 1, none⟩ = some (.slice none 0 0) := (blk_cell P.out.rx 1).trans rfl
                      have f_1 := blk_frozen P.out.rx 1
                      have x_2 := P.out.at_.2 2 _ rfl
                      have z_2 : (w3).cell? ⟨r, 2, none⟩ = some (.int .i64 0) := (blk_cell P.out.rx 2).trans rfl
                      have f_2 := blk_frozen P.out.rx 2
                      have x_3 := P.out.at_.2 3 _ rfl
                      have z_3 : (w3).cell? ⟨r, 3, none⟩ = some (.slice none 0 0) := (blk_cell P.out.rx 3).trans rfl
                      have f_3 := blk_frozen P.out.rx 3
                      have x_4 := P.out.at_.2 4 _ rfl
                      have z_4 : (w3).cell? ⟨r, 4, none⟩ = some (.int .i64 0) := (blk_cell P.out.rx 4).trans rfl
                      have f_4 := blk_frozen P.out.rx 4
                      have x_5 := P.out.at_.2 5 _ rfl
                      have z_5 : (w3).cell? ⟨r, 5, none⟩ = some (.slice none 0 0) := (blk_cell P.out.rx 5).trans rfl
                      have f_5 := blk_frozen P.out.rx 5
                      have x_6 := P.out.at_.2 6 _ rfl
                      have z_6 : (w3).cell? ⟨r, 6, none⟩ = some (.int .i64 0) := (blk_cell P.out.rx 6).trans rfl
                      have f_6 := blk_frozen P.out.rx 6
                      have x_7 := P.out.at_.2 7 _ rfl
                      have z_7 : (w3).cell? ⟨r, 7, none⟩ = some (.slice none 0 0) := (blk_cell P.out.rx 7).trans rfl
                      have f_7 := blk_frozen P.out.rx 7
                      go_wp2
                      go_ways
                      obtain ⟨d1, d2, d3⟩ := P.out.done (.int .i64 (m : Int)) (.slice A_0 V0.length c_0) (.int .i64 (m : Int)) (.slice A_1 V1.length c_1) (.int .i64 (m : Int)) (.slice A_2 V2.length c_2) (.int .i64 (m : Int)) (.slice A_3 V3.length c_3) _ rfl
                      exact bodyPost_ret (results_ct rfl _ _ r 54 _ (0, 0) _ rfl d1 hu4 rfl (by kernel_rfl)) rfl ⟨_, _, _, _, rfl, d2, d3⟩
end Go.Proofs.Ytlghmadoogblcaa.RefCount
end
section
namespace Go.Proofs.Ytlghmadoogblcaa.RefCount
open Go Go.RowKit Go.Proofs.YtlghmadoogblcaaW.PrintWords Go.Proofs.YtlghmadoogblcaaW.PrintLast Go.Proofs.YtlghmadoogblcaaW.PrintMore Go.Proofs.Ytlghmadoogblcaa.PW Go.Proofs.Ytlghmadoogblcaa.Book Go.Proofs.Ytlghmadoogblcaa.Lent Go.Proofs.Ytlghmadoogblcaa.Pile Go.Proofs.Ytlghmadoogblcaa.Rows4 Go.Proofs.Ytlghmadoogblcaa.CountWalk
set_option linter.unusedVariables false
set_option linter.unusedSimpArgs false
set_option maxHeartbeats 8000000 in
set_option maxRecDepth 100000 in
theorem count_many (A0 : Option Addr) (c0 : Nat) (l : List S31) (w : World) (h15 : 15 < l.length) (hm : l.length ≤ 9223372036854775807) :
    Calls Try.prog 32 #[.slice A0 l.length c0] w fun e w' => ∃ v0 v1 v2 v3, e = .returned (.tuple #[.agg (cells4 0 v0 v1 v2 v3).toArray, .int .i64 6]) ∧ Rws w.heap.size w' ((⟨[], [], [], []⟩ : Q4).rows v0 v1 v2 v3) ∧ Below w.heap.size w w' := by
  have hu := Try.underlying31
  have hu4 := Try.underlying54
  have d15 : decide ((l.length : Int) > 15) = true := decide_eq_true (by omega)
  go_enter Try.func32, Try.ntmps32
  go_wp2_with (first
    | ((with_reducible refine gate_dst (N := 2) rfl ?_); refine box_event ?hg2 (N := 2) ?hd2 (cs := #[.int .i64 0, .slice none 0 0, .int .i64 0, .slice none 0 0, .int .i64 0, .slice none 0 0, .int .i64 0, .slice none 0 0]) (t := 54) ?hr2 ?_; (case hd2 => rfl); (case hg2 => rfl); (case hr2 => first | (go_simp; done) | (go_simp; rfl)); intro r gr W1 x1 hb1; have hgr : w.heap.size ≤ r := (by omega); clear gr)
    | ((with_reducible refine gate_dst (N := 4) rfl ?_); refine box_event ?hg4 (N := 4) ?hd4 (cs := #[.int .i64 0, .slice none 0 0, .int .i64 0, .slice none 0 0, .int .i64 0, .slice none 0 0, .int .i64 0, .slice none 0 0]) (t := 54) ?hr4 ?_; (case hd4 => rfl); (case hg4 => rfl); (case hr4 => first | (go_simp; done) | (go_simp; rfl)); intro b gb W2 x2 hb2; have P2 : CS w W2 b r (cells4 0 (.slice none 0 0) (.slice none 0 0) (.slice none 0 0) (.slice none 0 0)) [] := ⟨chain_ hb1 hb2, x2, blk_below x1 hb2, (by have := hb1.size; omega), (by omega), (by have := blk_lt x1; omega), Rws.nil⟩; have P := Aside0.mk P2; clear P2 x1 x2 hb1 hb2 gb; have x_0 := P.out.at_.2 0 _ rfl; have z_0 : (W2).cell? ⟨r, 0, none⟩ = some (.int .i64 0) := (blk_cell P.out.rx 0).trans rfl; have f_0 := blk_frozen P.out.rx 0; have x_1 := P.out.at_.2 1 _ rfl; have z_1 : (W2).cell? ⟨r, 1, none⟩ = some (.slice none 0 0) := (blk_cell P.out.rx 1).trans rfl; have f_1 := blk_frozen P.out.rx 1; have x_2 := P.out.at_.2 2 _ rfl; have z_2 : (W2).cell? ⟨r, 2, none⟩ = some (.int .i64 0) := (blk_cell P.out.rx 2).trans rfl; have f_2 := blk_frozen P.out.rx 2; have x_3 := P.out.at_.2 3 _ rfl; have z_3 : (W2).cell? ⟨r, 3, none⟩ = some (.slice none 0 0) := (blk_cell P.out.rx 3).trans rfl; have f_3 := blk_frozen P.out.rx 3; have x_4 := P.out.at_.2 4 _ rfl; have z_4 : (W2).cell? ⟨r, 4, none⟩ = some (.int .i64 0) := (blk_cell P.out.rx 4).trans rfl; have f_4 := blk_frozen P.out.rx 4; have x_5 := P.out.at_.2 5 _ rfl; have z_5 : (W2).cell? ⟨r, 5, none⟩ = some (.slice none 0 0) := (blk_cell P.out.rx 5).trans rfl; have f_5 := blk_frozen P.out.rx 5; have x_6 := P.out.at_.2 6 _ rfl; have z_6 : (W2).cell? ⟨r, 6, none⟩ = some (.int .i64 0) := (blk_cell P.out.rx 6).trans rfl; have f_6 := blk_frozen P.out.rx 6; have x_7 := P.out.at_.2 7 _ rfl; have z_7 : (W2).cell? ⟨r, 7, none⟩ = some (.slice none 0 0) := (blk_cell P.out.rx 7).trans rfl; have f_7 := blk_frozen P.out.rx 7))
  obtain ⟨d1, d2, d3⟩ := P.out.done (.int .i64 0) (.slice none 0 0) (.int .i64 0) (.slice none 0 0) (.int .i64 0) (.slice none 0 0) (.int .i64 0) (.slice none 0 0) _ rfl
  exact bodyPost_ret (results_ct rfl _ _ r 54 _ (0, 0) _ rfl d1 hu4 rfl (by kernel_rfl)) rfl ⟨_, _, _, _, rfl, rows_nil _ _, d3⟩
set_option maxHeartbeats 8000000 in
set_option maxRecDepth 100000 in
theorem count_bad (k : Nat) (A0 : Option Addr) (c0 : Nat) (l : List S31) (er : Int) (w : World) (hr0 : Kd.C k31 w A0 l.length l) (hc0 : l.length ≤ c0) (h15 : l.length ≤ 15) (hfit : PF.vivariumref02_fits.f k l = some er) (her : er ≠ 0) :
    Calls Try.prog 32 #[.slice A0 l.length c0] w fun e w' => ∃ v0 v1 v2 v3, e = .returned (.tuple #[.agg (cells4 0 v0 v1 v2 v3).toArray, .int .i64 er]) ∧ Rws w.heap.size w' ((⟨[], [], [], []⟩ : Q4).rows v0 v1 v2 v3) ∧ Below w.heap.size w w' := by
  have HR := Aside0.mk hr0; have HC0 := Aside0.mk hc0; have HF := Aside0.mk hfit
  have hu := Try.underlying31
  have hu4 := Try.underlying54
  have d15 : decide ((l.length : Int) > 15) = false := decide_eq_false (by omega)
  have de : ((er : Int) != 0) = true := by simpa using her
  clear hr0 hfit her
  go_enter Try.func32, Try.ntmps32
  go_wp2_with (first
    | ((with_reducible refine gate_dst (N := 2) rfl ?_); refine box_event ?hg2 (N := 2) ?hd2 (cs := #[.int .i64 0, .slice none 0 0, .int .i64 0, .slice none 0 0, .int .i64 0, .slice none 0 0, .int .i64 0, .slice none 0 0]) (t := 54) ?hr2 ?_; (case hd2 => rfl); (case hg2 => rfl); (case hr2 => first | (go_simp; done) | (go_simp; rfl)); intro r gr W1 x1 hb1; have hgr : w.heap.size ≤ r := (by omega); clear gr)
    | ((with_reducible refine gate_dst (N := 4) rfl ?_); refine box_event ?hg4 (N := 4) ?hd4 (cs := #[.int .i64 0, .slice none 0 0, .int .i64 0, .slice none 0 0, .int .i64 0, .slice none 0 0, .int .i64 0, .slice none 0 0]) (t := 54) ?hr4 ?_; (case hd4 => rfl); (case hg4 => rfl); (case hr4 => first | (go_simp; done) | (go_simp; rfl)); intro b gb W2 x2 hb2; have P2 : CS w W2 b r (cells4 0 (.slice none 0 0) (.slice none 0 0) (.slice none 0 0) (.slice none 0 0)) [] := ⟨chain_ hb1 hb2, x2, blk_below x1 hb2, (by have := hb1.size; omega), (by omega), (by have := blk_lt x1; omega), Rws.nil⟩; have P := Aside0.mk P2; clear P2 x1 x2 hb1 hb2 gb)
    | (go_at_call 54; have P1 := P.out; with_reducible refine (PF.vivariumref02_fits.calls k A0 c0 l er _ (Kd.C_below HR.out P1.be) HC0.out HF.out).mono ?_; rintro er_ v1 ⟨rfl, hb⟩; have P2 := P1.on hb; clear hb P P1; have P := Aside0.mk P2; clear P2; have x_0 := P.out.at_.2 0 _ rfl; have z_0 : (v1).cell? ⟨r, 0, none⟩ = some (.int .i64 0) := (blk_cell P.out.rx 0).trans rfl; have f_0 := blk_frozen P.out.rx 0; have x_1 := P.out.at_.2 1 _ rfl; have z_1 : (v1).cell? ⟨r, 1, none⟩ = some (.slice none 0 0) := (blk_cell P.out.rx 1).trans rfl; have f_1 := blk_frozen P.out.rx 1; have x_2 := P.out.at_.2 2 _ rfl; have z_2 : (v1).cell? ⟨r, 2, none⟩ = some (.int .i64 0) := (blk_cell P.out.rx 2).trans rfl; have f_2 := blk_frozen P.out.rx 2; have x_3 := P.out.at_.2 3 _ rfl; have z_3 : (v1).cell? ⟨r, 3, none⟩ = some (.slice none 0 0) := (blk_cell P.out.rx 3).trans rfl; have f_3 := blk_frozen P.out.rx 3; have x_4 := P.out.at_.2 4 _ rfl; have z_4 : (v1).cell? ⟨r, 4, none⟩ = some (.int .i64 0) := (blk_cell P.out.rx 4).trans rfl; have f_4 := blk_frozen P.out.rx 4; have x_5 := P.out.at_.2 5 _ rfl; have z_5 : (v1).cell? ⟨r, 5, none⟩ = some (.slice none 0 0) := (blk_cell P.out.rx 5).trans rfl; have f_5 := blk_frozen P.out.rx 5; have x_6 := P.out.at_.2 6 _ rfl; have z_6 : (v1).cell? ⟨r, 6, none⟩ = some (.int .i64 0) := (blk_cell P.out.rx 6).trans rfl; have f_6 := blk_frozen P.out.rx 6; have x_7 := P.out.at_.2 7 _ rfl; have z_7 : (v1).cell? ⟨r, 7, none⟩ = some (.slice none 0 0) := (blk_cell P.out.rx 7).trans rfl; have f_7 := blk_frozen P.out.rx 7))
  obtain ⟨d1, d2, d3⟩ := P.out.done (.int .i64 0) (.slice none 0 0) (.int .i64 0) (.slice none 0 0) (.int .i64 0) (.slice none 0 0) (.int .i64 0) (.slice none 0 0) _ rfl
  exact bodyPost_ret (results_ct rfl _ _ r 54 _ (0, 0) _ rfl d1 hu4 rfl (by kernel_rfl)) rfl ⟨_, _, _, _, rfl, rows_nil _ _, d3⟩
set_option maxHeartbeats 8000000 in
set_option maxRecDepth 100000 in
theorem count_none (k : Nat) (A0 : Option Addr) (c0 : Nat) (w : World) (hfit : PF.vivariumref02_fits.f k [] = some 0) (he : PB.vivariumref02_Row.f k [] = some (0, [])) :
    Calls Try.prog 32 #[.slice A0 0 c0] w fun e w' => ∃ v0 v1 v2 v3, e = .returned (.tuple #[.agg (cells4 0 v0 v1 v2 v3).toArray, .int .i64 0]) ∧ Rws w.heap.size w' ((⟨[], [], [], []⟩ : Q4).rows v0 v1 v2 v3) ∧ Below w.heap.size w w' := by
  have HF := Aside0.mk hfit; have HE := Aside0.mk he
  have hu := Try.underlying31
  have hu4 := Try.underlying54
  clear hfit he
  go_enter Try.func32, Try.ntmps32
  go_wp2_with (first
    | ((with_reducible refine gate_dst (N := 2) rfl ?_); refine box_event ?hg2 (N := 2) ?hd2 (cs := #[.int .i64 0, .slice none 0 0, .int .i64 0, .slice none 0 0, .int .i64 0, .slice none 0 0, .int .i64 0, .slice none 0 0]) (t := 54) ?hr2 ?_; (case hd2 => rfl); (case hg2 => rfl); (case hr2 => first | (go_simp; done) | (go_simp; rfl)); intro r gr W1 x1 hb1; have hgr : w.heap.size ≤ r := (by omega); clear gr)
    | ((with_reducible refine gate_dst (N := 4) rfl ?_); refine box_event ?hg4 (N := 4) ?hd4 (cs := #[.int .i64 0, .slice none 0 0, .int .i64 0, .slice none 0 0, .int .i64 0, .slice none 0 0, .int .i64 0, .slice none 0 0]) (t := 54) ?hr4 ?_; (case hd4 => rfl); (case hg4 => rfl); (case hr4 => first | (go_simp; done) | (go_simp; rfl)); intro b gb W2 x2 hb2; have P2 : CS w W2 b r (cells4 0 (.slice none 0 0) (.slice none 0 0) (.slice none 0 0) (.slice none 0 0)) [] := ⟨chain_ hb1 hb2, x2, blk_below x1 hb2, (by have := hb1.size; omega), (by omega), (by have := blk_lt x1; omega), Rws.nil⟩; have P := Aside0.mk P2; clear P2 x1 x2 hb1 hb2 gb)
    | (go_at_call 54; have P1 := P.out; have h_ : Calls Try.prog 54 #[.slice A0 0 c0] W2 (fun e w' => e = .returned (.int .i64 0) ∧ Below W2.heap.size W2 w') := PF.vivariumref02_fits.calls k A0 c0 [] 0 W2 ⟨rfl, by simp, fun h => absurd h (Nat.lt_irrefl 0)⟩ (Nat.zero_le _) HF.out; with_reducible refine h_.mono ?_; clear h_; rintro er_ v1 ⟨rfl, hb⟩; have P2 := P1.on hb; clear hb P P1; have P := Aside0.mk P2; clear P2)
    | ((with_reducible refine gate_dst (N := 31) rfl ?_); refine Kd.R_make (Kd.int .i64) _ 3 rfl (N := 31) rfl 74 _ _ rfl 0 rfl rfl Try.underlying74 (.int .i64 0) 8 (by kernel_rfl) rfl (by decide) (by omega) (0 : Int) (ok := fun _ => True) (okp := fun _ => True) rfl (fun _ hk => hk) trivial (by decide) (by decide) (Below.refl _ _) (Nat.le_refl _) ?_; intro v_ v2 hR hb hg_ hn_; clear hg_ hn_; obtain ⟨A_s, c_s, e_, -, -⟩ := Kd.R_reads hR; subst e_; have P2 := P.out.on hb; clear hb hR P; have P := Aside0.mk P2; clear P2))
  refine wp_loop_rounds 1 ?_
  rw [rounds_succ]
  go_wp2
  refine wp_loop_rounds 5 ?_
  rw [rounds_succ]
  go_wp2_with ((with_reducible refine gate_dst (N := 60) rfl ?_); refine Kd.R_make Kd.bool _ 4 rfl (N := 60) rfl 35 _ _ rfl 0 rfl rfl Try.underlying35 (.bool false) 1 (by kernel_rfl) rfl (by decide) (by omega) false (ok := fun _ => True) (okp := fun _ => True) rfl (fun _ hk => hk) trivial (by decide) (by decide) (Below.refl _ _) (Nat.le_refl _) ?_; intro v_ wb0 hR hb hg_ hn_; clear hg_ hn_; obtain ⟨A_b0, c_b0, e_, hl_, hC_⟩ := Kd.R_reads hR; subst e_; have HC_ := Aside0.mk hC_; have HL_ := Aside0.mk hl_; have P2 := P.out.on hb; clear hb hR P hC_ hl_; have P := Aside0.mk P2; clear P2)
  refine wp_loop_rounds 1 ?_
  rw [rounds_succ]
  go_wp2_with (go_at_call 48; have P1 := P.out; have h_ : Calls Try.prog 48 #[.slice A_b0 0 c_b0] wb0 (fun e w' => ∃ v1_ : Value, e = .returned (.agg #[.int .i64 0, v1_]) ∧ Kd.R (Kd.int .u64) 22 w' wb0.heap.size (fun _ => True) v1_ [] ∧ Below wb0.heap.size wb0 w') := PB.vivariumref02_Row.calls k A_b0 c_b0 [] 0 [] wb0 HC_.out HL_.out HE.out; with_reducible refine h_.mono ?_; clear h_; rintro er_ u0 ⟨t_, rfl, hR, hb⟩; obtain ⟨A_0, c_0, e_, -, -⟩ := Kd.R_reads hR; rw [List.length_nil] at e_; subst e_; have P2 := P1.told hb hR; clear hb hR P P1 HC_ HL_; have P := Aside0.mk P2; clear P2; have x_0 := P.out.at_.2 0 _ rfl; have f_0 := blk_frozen P.out.bx 0; have x_1 := P.out.at_.2 1 _ rfl; have f_1 := blk_frozen P.out.bx 1; have x_2 := P.out.at_.2 2 _ rfl; have f_2 := blk_frozen P.out.bx 2; have x_3 := P.out.at_.2 3 _ rfl; have f_3 := blk_frozen P.out.bx 3; have x_4 := P.out.at_.2 4 _ rfl; have f_4 := blk_frozen P.out.bx 4; have x_5 := P.out.at_.2 5 _ rfl; have f_5 := blk_frozen P.out.bx 5; have x_6 := P.out.at_.2 6 _ rfl; have f_6 := blk_frozen P.out.bx 6; have x_7 := P.out.at_.2 7 _ rfl; have f_7 := blk_frozen P.out.bx 7)
  have P2 : CS w _ b r [.int .i64 0, .slice A_0 0 c_0, .int .i64 0, .slice none 0 0, .int .i64 0, .slice none 0 0, .int .i64 0, .slice none 0 0] [(.slice A_0 0 c_0, [])] := P.out.put 0 (.int .i64 0) (.slice A_0 0 c_0) (by simp [cells4])
  clear x_0 f_0 x_1 f_1 x_2 f_2 x_3 f_3 x_4 f_4 x_5 f_5 x_6 f_6 x_7 f_7 P
  have P := Aside0.mk P2
  clear P2
  generalize (World.setCell _ _ _).setCell _ _ = w0 at P ⊢
  rw [rounds_succ]
  go_wp2_with ((with_reducible refine gate_dst (N := 60) rfl ?_); refine Kd.R_make Kd.bool _ 4 rfl (N := 60) rfl 35 _ _ rfl 0 rfl rfl Try.underlying35 (.bool false) 1 (by kernel_rfl) rfl (by decide) (by omega) false (ok := fun _ => True) (okp := fun _ => True) rfl (fun _ hk => hk) trivial (by decide) (by decide) (Below.refl _ _) (Nat.le_refl _) ?_; intro v_ wb1 hR hb hg_ hn_; clear hg_ hn_; obtain ⟨A_b1, c_b1, e_, hl_, hC_⟩ := Kd.R_reads hR; subst e_; have HC_ := Aside0.mk hC_; have HL_ := Aside0.mk hl_; have P2 := P.out.on hb; clear hb hR P hC_ hl_; have P := Aside0.mk P2; clear P2)
  refine wp_loop_rounds 1 ?_
  rw [rounds_succ]
  go_wp2_with (go_at_call 48; have P1 := P.out; have h_ : Calls Try.prog 48 #[.slice A_b1 0 c_b1] wb1 (fun e w' => ∃ v1_ : Value, e = .returned (.agg #[.int .i64 0, v1_]) ∧ Kd.R (Kd.int .u64) 22 w' wb1.heap.size (fun _ => True) v1_ [] ∧ Below wb1.heap.size wb1 w') := PB.vivariumref02_Row.calls k A_b1 c_b1 [] 0 [] wb1 HC_.out HL_.out HE.out; with_reducible refine h_.mono ?_; clear h_; rintro er_ u1 ⟨t_, rfl, hR, hb⟩; obtain ⟨A_1, c_1, e_, -, -⟩ := Kd.R_reads hR; rw [List.length_nil] at e_; subst e_; have P2 := P1.told hb hR; clear hb hR P P1 HC_ HL_; have P := Aside0.mk P2; clear P2; have x_0 := P.out.at_.2 0 _ rfl; have f_0 := blk_frozen P.out.bx 0; have x_1 := P.out.at_.2 1 _ rfl; have f_1 := blk_frozen P.out.bx 1; have x_2 := P.out.at_.2 2 _ rfl; have f_2 := blk_frozen P.out.bx 2; have x_3 := P.out.at_.2 3 _ rfl; have f_3 := blk_frozen P.out.bx 3; have x_4 := P.out.at_.2 4 _ rfl; have f_4 := blk_frozen P.out.bx 4; have x_5 := P.out.at_.2 5 _ rfl; have f_5 := blk_frozen P.out.bx 5; have x_6 := P.out.at_.2 6 _ rfl; have f_6 := blk_frozen P.out.bx 6; have x_7 := P.out.at_.2 7 _ rfl; have f_7 := blk_frozen P.out.bx 7)
  have P2 : CS w _ b r [.int .i64 0, .slice A_0 0 c_0, .int .i64 0, .slice A_1 0 c_1, .int .i64 0, .slice none 0 0, .int .i64 0, .slice none 0 0] [(.slice A_0 0 c_0, []), (.slice A_1 0 c_1, [])] := P.out.put 2 (.int .i64 0) (.slice A_1 0 c_1) (by simp [cells4])
  clear x_0 f_0 x_1 f_1 x_2 f_2 x_3 f_3 x_4 f_4 x_5 f_5 x_6 f_6 x_7 f_7 P
  have P := Aside0.mk P2
  clear P2
  generalize (World.setCell _ _ _).setCell _ _ = w1 at P ⊢
  rw [rounds_succ]
  go_wp2_with ((with_reducible refine gate_dst (N := 60) rfl ?_); refine Kd.R_make Kd.bool _ 4 rfl (N := 60) rfl 35 _ _ rfl 0 rfl rfl Try.underlying35 (.bool false) 1 (by kernel_rfl) rfl (by decide) (by omega) false (ok := fun _ => True) (okp := fun _ => True) rfl (fun _ hk => hk) trivial (by decide) (by decide) (Below.refl _ _) (Nat.le_refl _) ?_; intro v_ wb2 hR hb hg_ hn_; clear hg_ hn_; obtain ⟨A_b2, c_b2, e_, hl_, hC_⟩ := Kd.R_reads hR; subst e_; have HC_ := Aside0.mk hC_; have HL_ := Aside0.mk hl_; have P2 := P.out.on hb; clear hb hR P hC_ hl_; have P := Aside0.mk P2; clear P2)
  refine wp_loop_rounds 1 ?_
  rw [rounds_succ]
  go_wp2_with (go_at_call 48; have P1 := P.out; have h_ : Calls Try.prog 48 #[.slice A_b2 0 c_b2] wb2 (fun e w' => ∃ v1_ : Value, e = .returned (.agg #[.int .i64 0, v1_]) ∧ Kd.R (Kd.int .u64) 22 w' wb2.heap.size (fun _ => True) v1_ [] ∧ Below wb2.heap.size wb2 w') := PB.vivariumref02_Row.calls k A_b2 c_b2 [] 0 [] wb2 HC_.out HL_.out HE.out; with_reducible refine h_.mono ?_; clear h_; rintro er_ u2 ⟨t_, rfl, hR, hb⟩; obtain ⟨A_2, c_2, e_, -, -⟩ := Kd.R_reads hR; rw [List.length_nil] at e_; subst e_; have P2 := P1.told hb hR; clear hb hR P P1 HC_ HL_; have P := Aside0.mk P2; clear P2; have x_0 := P.out.at_.2 0 _ rfl; have f_0 := blk_frozen P.out.bx 0; have x_1 := P.out.at_.2 1 _ rfl; have f_1 := blk_frozen P.out.bx 1; have x_2 := P.out.at_.2 2 _ rfl; have f_2 := blk_frozen P.out.bx 2; have x_3 := P.out.at_.2 3 _ rfl; have f_3 := blk_frozen P.out.bx 3; have x_4 := P.out.at_.2 4 _ rfl; have f_4 := blk_frozen P.out.bx 4; have x_5 := P.out.at_.2 5 _ rfl; have f_5 := blk_frozen P.out.bx 5; have x_6 := P.out.at_.2 6 _ rfl; have f_6 := blk_frozen P.out.bx 6; have x_7 := P.out.at_.2 7 _ rfl; have f_7 := blk_frozen P.out.bx 7)
  have P2 : CS w _ b r [.int .i64 0, .slice A_0 0 c_0, .int .i64 0, .slice A_1 0 c_1, .int .i64 0, .slice A_2 0 c_2, .int .i64 0, .slice none 0 0] [(.slice A_0 0 c_0, []), (.slice A_1 0 c_1, []), (.slice A_2 0 c_2, [])] := P.out.put 4 (.int .i64 0) (.slice A_2 0 c_2) (by simp [cells4])
  clear x_0 f_0 x_1 f_1 x_2 f_2 x_3 f_3 x_4 f_4 x_5 f_5 x_6 f_6 x_7 f_7 P
  have P := Aside0.mk P2
  clear P2
  generalize (World.setCell _ _ _).setCell _ _ = w2 at P ⊢
  rw [rounds_succ]
  go_wp2_with ((with_reducible refine gate_dst (N := 60) rfl ?_); refine Kd.R_make Kd.bool _ 4 rfl (N := 60) rfl 35 _ _ rfl 0 rfl rfl Try.underlying35 (.bool false) 1 (by kernel_rfl) rfl (by decide) (by omega) false (ok := fun _ => True) (okp := fun _ => True) rfl (fun _ hk => hk) trivial (by decide) (by decide) (Below.refl _ _) (Nat.le_refl _) ?_; intro v_ wb3 hR hb hg_ hn_; clear hg_ hn_; obtain ⟨A_b3, c_b3, e_, hl_, hC_⟩ := Kd.R_reads hR; subst e_; have HC_ := Aside0.mk hC_; have HL_ := Aside0.mk hl_; have P2 := P.out.on hb; clear hb hR P hC_ hl_; have P := Aside0.mk P2; clear P2)
  refine wp_loop_rounds 1 ?_
  rw [rounds_succ]
  go_wp2_with (go_at_call 48; have P1 := P.out; have h_ : Calls Try.prog 48 #[.slice A_b3 0 c_b3] wb3 (fun e w' => ∃ v1_ : Value, e = .returned (.agg #[.int .i64 0, v1_]) ∧ Kd.R (Kd.int .u64) 22 w' wb3.heap.size (fun _ => True) v1_ [] ∧ Below wb3.heap.size wb3 w') := PB.vivariumref02_Row.calls k A_b3 c_b3 [] 0 [] wb3 HC_.out HL_.out HE.out; with_reducible refine h_.mono ?_; clear h_; rintro er_ u3 ⟨t_, rfl, hR, hb⟩; obtain ⟨A_3, c_3, e_, -, -⟩ := Kd.R_reads hR; rw [List.length_nil] at e_; subst e_; have P2 := P1.told hb hR; clear hb hR P P1 HC_ HL_; have P := Aside0.mk P2; clear P2; have x_0 := P.out.at_.2 0 _ rfl; have f_0 := blk_frozen P.out.bx 0; have x_1 := P.out.at_.2 1 _ rfl; have f_1 := blk_frozen P.out.bx 1; have x_2 := P.out.at_.2 2 _ rfl; have f_2 := blk_frozen P.out.bx 2; have x_3 := P.out.at_.2 3 _ rfl; have f_3 := blk_frozen P.out.bx 3; have x_4 := P.out.at_.2 4 _ rfl; have f_4 := blk_frozen P.out.bx 4; have x_5 := P.out.at_.2 5 _ rfl; have f_5 := blk_frozen P.out.bx 5; have x_6 := P.out.at_.2 6 _ rfl; have f_6 := blk_frozen P.out.bx 6; have x_7 := P.out.at_.2 7 _ rfl; have f_7 := blk_frozen P.out.bx 7)
  have P2 : CS w _ b r [.int .i64 0, .slice A_0 0 c_0, .int .i64 0, .slice A_1 0 c_1, .int .i64 0, .slice A_2 0 c_2, .int .i64 0, .slice A_3 0 c_3] [(.slice A_0 0 c_0, []), (.slice A_1 0 c_1, []), (.slice A_2 0 c_2, []), (.slice A_3 0 c_3, [])] := P.out.put 6 (.int .i64 0) (.slice A_3 0 c_3) (by simp [cells4])
  clear x_0 f_0 x_1 f_1 x_2 f_2 x_3 f_3 x_4 f_4 x_5 f_5 x_6 f_6 x_7 f_7 P
  have P := Aside0.mk P2
  clear P2
  generalize (World.setCell _ _ _).setCell _ _ = w3 at P ⊢
  rw [rounds_succ]
  have x_0 := P.out.at_.2 0 _ rfl
  have z_0 : (w3).cell? ⟨r, 0, none⟩ = some (.int .i64 0) := (blk_cell P.out.rx 0).trans rfl
  have f_0 := blk_frozen P.out.rx 0
  have x_1 := P.out.at_.2 1 _ rfl
  have z_1 : (w3).cell? ⟨r, 1, none⟩ = some (.slice none 0 0) := (blk_cell P.out.rx 1).trans rfl
  have f_1 := blk_frozen P.out.rx 1
  have x_2 := P.out.at_.2 2 _ rfl
  have z_2 : (w3).cell? ⟨r, 2, none⟩ = some (.int .i64 0) := (blk_cell P.out.rx 2).trans rfl
  have f_2 := blk_frozen P.out.rx 2
  have x_3 := P.out.at_.2 3 _ rfl
  have z_3 : (w3).cell? ⟨r, 3, none⟩ = some (.slice none 0 0) := (blk_cell P.out.rx 3).trans rfl
  have f_3 := blk_frozen P.out.rx 3
  have x_4 := P.out.at_.2 4 _ rfl
  have z_4 : (w3).cell? ⟨r, 4, none⟩ = some (.int .i64 0) := (blk_cell P.out.rx 4).trans rfl
  have f_4 := blk_frozen P.out.rx 4
  have x_5 := P.out.at_.2 5 _ rfl
  have z_5 : (w3).cell? ⟨r, 5, none⟩ = some (.slice none 0 0) := (blk_cell P.out.rx 5).trans rfl
  have f_5 := blk_frozen P.out.rx 5
  have x_6 := P.out.at_.2 6 _ rfl
  have z_6 : (w3).cell? ⟨r, 6, none⟩ = some (.int .i64 0) := (blk_cell P.out.rx 6).trans rfl
  have f_6 := blk_frozen P.out.rx 6
  have x_7 := P.out.at_.2 7 _ rfl
  have z_7 : (w3).cell? ⟨r, 7, none⟩ = some (.slice none 0 0) := (blk_cell P.out.rx 7).trans rfl
  have f_7 := blk_frozen P.out.rx 7
  go_wp2
  obtain ⟨d1, d2, d3⟩ := P.out.done (.int .i64 0) (.slice A_0 0 c_0) (.int .i64 0) (.slice A_1 0 c_1) (.int .i64 0) (.slice A_2 0 c_2) (.int .i64 0) (.slice A_3 0 c_3) _ rfl
  exact bodyPost_ret (results_ct rfl _ _ r 54 _ (0, 0) _ rfl d1 hu4 rfl (by kernel_rfl)) rfl ⟨_, _, _, _, rfl, d2, d3⟩
end Go.Proofs.Ytlghmadoogblcaa.RefCount
end
section
namespace Go.Proofs.Ytlghmadoogblcaa.RefPlain
open Go Go.RowKit Go.Proofs.Ytlghmadoogblcaa.PW Go.Proofs.Ytlghmadoogblcaa.PB Go.Proofs.YtlghmadoogblcaaW.PrintWords Go.Proofs.YtlghmadoogblcaaW.PrintLast Go.Proofs.YtlghmadoogblcaaW.PrintMore Go.Proofs.Ytlghmadoogblcaa.Bits Go.Proofs.Ytlghmadoogblcaa.Rowp
set_option maxRecDepth 100000
set_option linter.unusedVariables false
end Go.Proofs.Ytlghmadoogblcaa.RefPlain
end
section
namespace Go.Proofs.Ytlghmadoogblcaa.CountPlain
open Go Go.RowKit Go.Proofs.Ytlghmadoogblcaa.PW Go.Proofs.YtlghmadoogblcaaW.PrintWords Go.Proofs.YtlghmadoogblcaaW.PrintLast Go.Proofs.YtlghmadoogblcaaW.PrintMore Go.Proofs.Ytlghmadoogblcaa.Bits Go.Proofs.Ytlghmadoogblcaa.Rowp Go.Proofs.Ytlghmadoogblcaa.RefPlain Go.Proofs.Ytlghmadoogblcaa.Rows4 Go.Proofs.Ytlghmadoogblcaa.CountWalk
set_option maxRecDepth 100000
set_option linter.unusedVariables false
theorem rowOf_getD (m : Nat) (W : Nat → Nat) (i : Nat) (h : i < m) : (rowOf m W).getD i 0 = (W i : Int) := by
  rw [List.getD_eq_getElem?_getD, rowOf_get m W i h]; rfl
theorem rowOf_put (m : Nat) (W : Nat → Nat) (i x : Nat) : (rowOf m W).set i (x : Int) = rowOf m (fun t => if t = i then x else W t) := by
  have := rowOf_set m W i x
  rwa [Int.toNat_natCast] at this
def dg (k c : Nat) : Bool := decide (c / 2 ^ k % 2 = 1)
theorem dg_step (c : Nat) (b : Bool) (hc : c ≤ 15) (hb : b = true → c ≤ 14) : ∀ c', c' = c + (if b then 1 else 0) →
    (dg 0 c != b) = dg 0 c' ∧ (dg 1 c != (dg 0 c && b)) = dg 1 c' ∧ (dg 2 c != (dg 1 c && (dg 0 c && b))) = dg 2 c' ∧ (dg 3 c != (dg 2 c && (dg 1 c && (dg 0 c && b)))) = dg 3 c' := by
  rintro c' rfl
  have key : ∀ c : Fin 16, ∀ b : Bool, (b = true → c.val ≤ 14) → ((dg 0 c.val != b) = dg 0 (c.val + (if b then 1 else 0)) ∧ (dg 1 c.val != (dg 0 c.val && b)) = dg 1 (c.val + (if b then 1 else 0)) ∧ (dg 2 c.val != (dg 1 c.val && (dg 0 c.val && b))) = dg 2 (c.val + (if b then 1 else 0)) ∧ (dg 3 c.val != (dg 2 c.val && (dg 1 c.val && (dg 0 c.val && b)))) = dg 3 (c.val + (if b then 1 else 0))) := by decide
  exact key ⟨c, by omega⟩ b hb
def CntIs (L : Nat) (q : Q4) (c : Nat → Nat) : Prop := ∃ A B C D : Nat → Nat, q = ⟨rowOf L A, rowOf L B, rowOf L C, rowOf L D⟩ ∧ (∀ t, t < L → A t < 18446744073709551616 ∧ B t < 18446744073709551616 ∧ C t < 18446744073709551616 ∧ D t < 18446744073709551616) ∧
  ∀ i, i < 64 * L → bitAt A i = dg 0 (c i) ∧ bitAt B i = dg 1 (c i) ∧ bitAt C i = dg 2 (c i) ∧ bitAt D i = dg 3 (c i)
theorem CntIs.congr {L : Nat} {q : Q4} {c c' : Nat → Nat} (h : CntIs L q c) (e : ∀ i, i < 64 * L → c i = c' i) : CntIs L q c' := by
  obtain ⟨A, B, C, D, hq, hl, hb⟩ := h
  exact ⟨A, B, C, D, hq, hl, fun i hi => by rw [← e i hi]; exact hb i hi⟩
theorem bitAt_put (W : Nat → Nat) (t x i : Nat) : bitAt (fun s => if s = t then x else W s) i = if i / 64 = t then x.testBit (i % 64) else bitAt W i := by
  unfold bitAt
  by_cases h : i / 64 = t
  · simp only [if_pos h]
  · simp only [if_neg h]
theorem zero_is (L : Nat) : CntIs L (zero4 L) (fun _ => 0) := by
  refine ⟨fun _ => 0, fun _ => 0, fun _ => 0, fun _ => 0, ?_, fun t _ => ⟨Nat.zero_lt_succ _, Nat.zero_lt_succ _, Nat.zero_lt_succ _, Nat.zero_lt_succ _⟩, fun i _ => by simp [bitAt, dg]⟩
  unfold zero4
  rw [rowOf_zero]
theorem word_is {L t w : Nat} {q : Q4} {c : Nat → Nat} (h : CntIs L q c) (ht : t < L) (hw : w < 18446744073709551616) (hc : ∀ i, i < 64 * L → c i ≤ 15) (hc2 : ∀ i, i / 64 = t → w.testBit (i % 64) = true → c i ≤ 14) :
    CntIs L (Q4.word q t (w : Int)) (fun i => if i / 64 = t then c i + (if w.testBit (i % 64) then 1 else 0) else c i) := by
  obtain ⟨A, B, C, D, rfl, hl, hb⟩ := h
  obtain ⟨ha, hB, hC, hD⟩ := hl t ht
  have h1 := bits_and_n (A t) w ha hw
  have h2 := bits_and_n (B t) (A t &&& w) hB h1
  have h3 := bits_and_n (C t) (B t &&& (A t &&& w)) hC h2
  refine ⟨fun s => if s = t then A t ^^^ w else A s, fun s => if s = t then B t ^^^ (A t &&& w) else B s, fun s => if s = t then C t ^^^ (B t &&& (A t &&& w)) else C s, fun s => if s = t then D t ^^^ (C t &&& (B t &&& (A t &&& w))) else D s, ?_, fun s hs => ?_, fun i hi => ?_⟩
  · unfold Q4.word
    simp only
    rw [rowOf_getD _ _ _ ht, rowOf_getD _ _ _ ht, rowOf_getD _ _ _ ht, rowOf_getD _ _ _ ht, bits_and_u64_nat _ _ ha hw, bits_and_u64_nat _ _ hB h1, bits_and_u64_nat _ _ hC h2,
      bits_xor_u64_nat _ _ ha hw, bits_xor_u64_nat _ _ hB h1, bits_xor_u64_nat _ _ hC h2, bits_xor_u64_nat _ _ hD h3, rowOf_put, rowOf_put, rowOf_put, rowOf_put]
  · by_cases e : s = t
    · simp only [if_pos e]
      exact ⟨bits_xor_n _ _ ha hw, bits_xor_n _ _ hB h1, bits_xor_n _ _ hC h2, bits_xor_n _ _ hD h3⟩
    · simp only [if_neg e]
      exact hl s hs
  · rw [bitAt_put, bitAt_put, bitAt_put, bitAt_put]
    by_cases e : i / 64 = t
    · simp only [if_pos e]
      obtain ⟨b0, b1, b2, b3⟩ := hb i hi
      unfold bitAt at b0 b1 b2 b3
      rw [e] at b0 b1 b2 b3
      obtain ⟨d0, d1, d2, d3⟩ := dg_step (c i) (w.testBit (i % 64)) (hc i hi) (hc2 i e) _ rfl
      simp only [Nat.testBit_xor, Nat.testBit_and, b0, b1, b2, b3]
      exact ⟨d0, d1, d2, d3⟩
    · simp only [if_neg e]
      exact hb i hi
theorem words_is {L : Nat} {q : Q4} {c : Nat → Nat} {W : Nat → Nat} (h : CntIs L q c) (hw : ∀ t, t < L → W t < 18446744073709551616) (hc : ∀ i, i < 64 * L → c i ≤ 14) : ∀ x, x ≤ L →
    CntIs L (Q4.wordsTo q (rowOf L W) x) (fun i => if i / 64 < x then c i + (if bitAt W i then 1 else 0) else c i)
  | 0, _ => h.congr (fun i _ => by simp)
  | x + 1, hx => by
    have ih := words_is h hw hc x (by omega)
    show CntIs L (Q4.word (Q4.wordsTo q (rowOf L W) x) x ((rowOf L W).getD x 0)) _
    rw [rowOf_getD _ _ _ (by omega)]
    refine (word_is ih (by omega) (hw x (by omega)) (fun i hi => ?_) (fun i e _ => ?_)).congr (fun i hi => ?_)
    · have := hc i hi
      split
      · split <;> omega
      · omega
    · rw [if_neg (show ¬ i / 64 < x by omega)]
      exact hc i (by omega)
    · by_cases e : i / 64 = x
      · rw [if_pos e, if_neg (show ¬ i / 64 < x by omega), if_pos (show i / 64 < x + 1 by omega)]
        unfold bitAt
        rw [e]
      · rw [if_neg e]
        by_cases e2 : i / 64 < x
        · rw [if_pos e2, if_pos (show i / 64 < x + 1 by omega)]
        · rw [if_neg e2, if_neg (show ¬ i / 64 < x + 1 by omega)]
theorem rows_is {m : Nat} {l : List S31} {Wf : Nat → Nat → Nat} (h15 : l.length ≤ 15) (h : ∀ j, j < l.length → l.getD j z31 = ⟨(m : Int), rowOf (nw m) (Wf j)⟩ ∧ Rowp.Good m (Wf j)) : ∀ j, j ≤ l.length →
    CntIs (nw m) (Q4.rowsTo (zero4 (nw m)) l j) (fun i => cntTo (fun j i => bitAt (Wf j) i) i j)
  | 0, _ => (zero_is _).congr (fun i _ => rfl)
  | j + 1, hj => by
    have ih := rows_is h15 h j (by omega)
    obtain ⟨e, g⟩ := h j (by omega)
    show CntIs (nw m) (Q4.wordsTo (Q4.rowsTo (zero4 (nw m)) l j) (l.getD j z31).f1 (l.getD j z31).f1.length) _
    rw [e]
    simp only [rowOf_len]
    refine (words_is ih g.lt (fun i hi => ?_) (nw m) (Nat.le_refl _)).congr (fun i hi => ?_)
    · have := cntTo_le (fun j i => bitAt (Wf j) i) i j
      omega
    · rw [if_pos (show i / 64 < nw m by omega)]
      rfl
theorem cnt_high {m : Nat} {Wf : Nat → Nat → Nat} {n : Nat} (h : ∀ j, j < n → Rowp.Good m (Wf j)) (i : Nat) (h1 : m ≤ i) (h2 : i < 64 * nw m) : ∀ j, j ≤ n → cntTo (fun j i => bitAt (Wf j) i) i j = 0
  | 0, _ => rfl
  | j + 1, hj => by
    show cntTo (fun j i => bitAt (Wf j) i) i j + _ = 0
    rw [cnt_high h i h1 h2 j (by omega), if_neg (by show ¬ bitAt (Wf j) i = true; rw [good_high (h j (by omega)) i h1 h2]; decide)]
def Told (F : FuncId) (l : List S31) (n : Int) (q : Q4) (er : Int) : Prop := ∀ (A0 : Option Addr) (c0 : Nat) (w : World), Kd.C k31 w A0 l.length l → l.length ≤ c0 →
  Calls Try.prog F #[.slice A0 l.length c0] w fun e w' => ∃ v0 v1 v2 v3, e = .returned (.tuple #[.agg #[.int .i64 n, v0, .int .i64 n, v1, .int .i64 n, v2, .int .i64 n, v3], .int .i64 er]) ∧ Rws w.heap.size w' [(v0, q.a), (v1, q.b), (v2, q.c), (v3, q.d)] ∧ Below w.heap.size w w'
theorem count_agree (l : List S31) (hlen : l.length ≤ 17592186043904) (hu : ∀ j, j < l.length → U64 (l.getD j z31).f1) :
    ∃ n q er, Told 33 l n q er ∧ Told 32 l n q er ∧ q.a.length ≤ 2000000 ∧ q.b.length ≤ 2000000 ∧ q.c.length ≤ 2000000 ∧ q.d.length ≤ 2000000 := by
  by_cases h15 : 15 < l.length
  · exact ⟨0, ⟨[], [], [], []⟩, 6, fun A0 c0 w hr hc => count_many A0 c0 l w h15 (by omega), fun A0 c0 w hr hc => RefCount.count_many A0 c0 l w h15 (by omega), by simp, by simp, by simp, by simp⟩
  · obtain ⟨k, hk⟩ : ∃ k, k = 4000000 := ⟨_, rfl⟩
    obtain ⟨e, f1, f2, h0⟩ := fits_agree l (by omega) hu k (by omega)
    by_cases he : e = 0
    · subst he
      obtain ⟨m, Wf, hm, hall⟩ := h0 rfl
      by_cases hl : l.length = 0
      · obtain rfl : l = [] := List.eq_nil_of_length_eq_zero hl
        have b0 : words_blank.f 0 = some (0, []) := by
          have := blank_spec 0 (by omega)
          simpa [nw] using this
        have r0 : PB.vivariumref02_Row.f k [] = some (0, []) := by
          obtain ⟨V, gV, _, hr⟩ := row_spec (l := []) (by simp) k (by omega)
          simpa [nw, rowOf] using hr
        exact ⟨0, ⟨[], [], [], []⟩, 0, fun A0 c0 w hr hc => count_none k A0 c0 w f1 b0, fun A0 c0 w hr hc => RefCount.count_none k A0 c0 w f2 r0, by simp, by simp, by simp, by simp⟩
      · have hL := nw_le hm
        have hq := rows_is (by omega) hall l.length (Nat.le_refl _)
        obtain ⟨A, B, C, D, hq, hlt, hb⟩ := hq
        have n0 : (l.getD 0 z31).f0 = (m : Int) := by rw [(hall 0 (by omega)).1]
        have good : ∀ (k : Nat) (V : Nat → Nat), (∀ t, t < nw m → V t < 18446744073709551616) → (∀ i, i < 64 * nw m → bitAt V i = dg k (cntTo (fun j i => bitAt (Wf j) i) i l.length)) → Rowp.Good m V := by
          intro k V h1 h2
          refine good_of_bits hm h1 (fun i hi hj => ?_)
          rw [h2 i hj, cnt_high (fun j hj => (hall j hj).2) i hi hj l.length (Nat.le_refl _)]
          simp [dg]
        have dig : ∀ (q : Nat) (V : Nat → Nat), Rowp.Good m V → (∀ i, i < 64 * nw m → bitAt V i = dg q (cntTo (fun j i => bitAt (Wf j) i) i l.length)) → PB.vivariumref02_Row.f k (RefCount.digits (fun j i => bitAt (Wf j) i) m l.length q) = some ((m : Int), rowOf (nw m) V) := by
          intro q V gV hV
          obtain ⟨V', g', hb', hr⟩ := row_done hm (RefCount.digit (fun j i => bitAt (Wf j) i) l.length q) (fun _ => false)
          unfold RefCount.digits
          rw [hr k (by omega), row_eq g' gV (fun i hi => ?_)]
          have := n_le m
          rw [hb' i hi, hV i (by omega)]
          rfl
        have gA := good 0 A (fun t ht => (hlt t ht).1) (fun i hi => (hb i hi).1)
        have gB := good 1 B (fun t ht => (hlt t ht).2.1) (fun i hi => (hb i hi).2.1)
        have gC := good 2 C (fun t ht => (hlt t ht).2.2.1) (fun i hi => (hb i hi).2.2.1)
        have gD := good 3 D (fun t ht => (hlt t ht).2.2.2) (fun i hi => (hb i hi).2.2.2)
        refine ⟨(m : Int), ⟨rowOf (nw m) A, rowOf (nw m) B, rowOf (nw m) C, rowOf (nw m) D⟩, 0, fun A0 c0 w hr hc => ?_, fun A0 c0 w hr hc => ?_, by rw [rowOf_len]; omega, by rw [rowOf_len]; omega, by rw [rowOf_len]; omega, by rw [rowOf_len]; omega⟩
        · have h := CountWalk.count_rows k A0 c0 l (m : Int) (nw m) w hr hc (by omega) (by omega) f1 (fun j hj => by rw [(hall j hj).1]; exact rowOf_len _ _) n0 (blank_spec m hm) (by omega)
          rw [hq] at h
          exact h
        · refine RefCount.count_rows k A0 c0 l m (fun j i => bitAt (Wf j) i) _ _ _ _ w hr hc (by omega) (by omega) f2 n0 hm (fun j i hj hi => ?_) (dig 0 A gA (fun i hi => (hb i hi).1)) (dig 1 B gB (fun i hi => (hb i hi).2.1)) (dig 2 C gC (fun i hi => (hb i hi).2.2.1)) (dig 3 D gD (fun i hi => (hb i hi).2.2.2))
          have := n_le m
          rw [(hall j hj).1]
          exact refbit_spec _ _ _ hL i (by omega)
    · exact ⟨0, ⟨[], [], [], []⟩, e, fun A0 c0 w hr hc => count_bad k A0 c0 l e w hr hc (by omega) f1 he, fun A0 c0 w hr hc => RefCount.count_bad k A0 c0 l e w hr hc (by omega) f2 he, by simp, by simp, by simp, by simp⟩
end Go.Proofs.Ytlghmadoogblcaa.CountPlain
end
section
namespace Go.Proofs.Ytlghmadoogblcaa.Pile
open Go Go.RowKit Go.Proofs.YtlghmadoogblcaaW.PrintWords Go.Proofs.YtlghmadoogblcaaW.PrintLast Go.Proofs.YtlghmadoogblcaaW.PrintMore Go.Proofs.Ytlghmadoogblcaa.PW Go.Proofs.Ytlghmadoogblcaa.Bx Go.Proofs.Ytlghmadoogblcaa.Book Go.Proofs.Ytlghmadoogblcaa.Lent Go.Proofs.Ytlghmadoogblcaa.Rows4
set_option linter.unusedVariables false
set_option linter.unusedSimpArgs false
def fullCells (l : List S31) (Lf : List (Nat × Nat × List Int)) : Nat → List Value
  | 0 => []
  | i + 1 => fullCells l Lf i ++ [.int .i64 (l.getD i z31).f0, .slice (some ⟨(Lf.getD i (0, 0, [])).1, 0, none⟩) (l.getD i z31).f1.length (Lf.getD i (0, 0, [])).2.1]
theorem fullCells_len (l : List S31) (Lf : List (Nat × Nat × List Int)) : ∀ i, (fullCells l Lf i).length = 2 * i
  | 0 => rfl
  | i + 1 => by
    show (fullCells l Lf i ++ _).length = _
    rw [List.length_append, fullCells_len l Lf i]
    simp
    omega
theorem fullCells_get (l : List S31) (Lf : List (Nat × Nat × List Int)) : ∀ (n i : Nat), i < n → (fullCells l Lf n)[i * 2]? = some (.int .i64 (l.getD i z31).f0) ∧ (fullCells l Lf n)[i * 2 + 1]? = some (.slice (some ⟨(Lf.getD i (0, 0, [])).1, 0, none⟩) (l.getD i z31).f1.length (Lf.getD i (0, 0, [])).2.1)
  | n + 1, i, h => by
    show (fullCells l Lf n ++ _)[i * 2]? = _ ∧ (fullCells l Lf n ++ _)[i * 2 + 1]? = _
    have hl := fullCells_len l Lf n
    by_cases e : i = n
    · subst e
      rw [List.getElem?_append_right (by omega), List.getElem?_append_right (by omega), hl, show i * 2 - 2 * i = 0 by omega, show i * 2 + 1 - 2 * i = 1 by omega]
      exact ⟨rfl, rfl⟩
    · rw [List.getElem?_append_left (by omega), List.getElem?_append_left (by omega)]
      exact fullCells_get l Lf n i (by omega)
theorem fullCells_snoc (l : List S31) (Lf : List (Nat × Nat × List Int)) (x : Nat × Nat × List Int) : ∀ i, i ≤ Lf.length → fullCells l (Lf ++ [x]) i = fullCells l Lf i
  | 0, _ => rfl
  | i + 1, h => by
    show fullCells l (Lf ++ [x]) i ++ _ = fullCells l Lf i ++ _
    have e : (Lf ++ [x]).getD i (0, 0, []) = Lf.getD i (0, 0, []) := by
      rw [List.getD_eq_getElem?_getD, List.getD_eq_getElem?_getD, List.getElem?_append_left (by omega)]
    rw [fullCells_snoc l Lf x i (by omega), e]
theorem getD_last (Lf : List (Nat × Nat × List Int)) (x : Nat × Nat × List Int) : (Lf ++ [x]).getD Lf.length (0, 0, []) = x := by
  rw [List.getD_eq_getElem?_getD, List.getElem?_append_right (Nat.le_refl _), Nat.sub_self]
  rfl
theorem rows_C {W : World} {A : Option Addr} {f : Nat} {l : List S31} {Lf : List (Nat × Nat × List Int)} {base : Nat} (hm : l.length ≤ 9223372036854775807) (hA : 0 < l.length → A = some ⟨f, 0, none⟩)
    (hc : ∀ i, i < l.length → W.cell? ⟨f, i * 2, none⟩ = some (.int .i64 (l.getD i z31).f0) ∧ W.cell? ⟨f, i * 2 + 1, none⟩ = some (.slice (some ⟨(Lf.getD i (0, 0, [])).1, 0, none⟩) (l.getD i z31).f1.length (Lf.getD i (0, 0, [])).2.1))
    (hl : ∀ i, i < l.length → LentIs base W (Lf.getD i (0, 0, [])).1 (Lf.getD i (0, 0, [])).2.1 (l.getD i z31).f1) : Kd.C k31 W A l.length l := by
  refine ⟨rfl, hm, fun hn => ⟨⟨f, 0, none⟩, hA hn, fun j p hj => ?_⟩⟩
  obtain ⟨hjl, hp⟩ := List.getElem?_eq_some_iff.1 hj
  have e : l.getD j z31 = p := by rw [List.getD_eq_getElem?_getD, hj]; rfl
  obtain ⟨c0, c1⟩ := hc j hjl
  have L := hl j hjl
  rw [e] at c0 c1 L
  have ad : ∀ q : Nat, (⟨f, 0, none⟩ : Addr).add q = ⟨f, q, none⟩ := fun q => by cases q <;> simp [Addr.add]
  refine ⟨_, rfl, k31_mk W p (c1 := (Lf.getD j (0, 0, [])).2.1) (by have := L.cap; omega) L.C, fun i u hu => ?_⟩
  rw [ad]
  match i, hu with
  | 0, hu => obtain rfl := Option.some.inj hu; exact c0
  | 1, hu => obtain rfl := Option.some.inj hu; exact c1
section
variable {w W W' : World} {b g : Nat} {gv wv : Value} {Z : List Ans} {ix : List Nat} {R Q : List (Value × List Int)} {T : List (Nat × List Value)} {L : List (Nat × Nat × List Int)} {B : List (Value × List Bool)}
theorem Pile.toldRows (h : Pile w W b gv wv Z ix R T L B) (hb : Below W.heap.size W W') (hr : Rws W.heap.size W' Q) : Pile w W' b gv wv Z ix (R ++ Q) T L B := by
  have h' := h.on hb
  have new : ∀ (j : Nat) p k, Q[j]? = some p → p.1.ownBlock = some k → W.heap.size ≤ k := fun j p k hj hk => own_base (hr.own j p hj) k hk
  have old : ∀ (j : Nat) p k, R[j]? = some p → p.1.ownBlock = some k → k < W.heap.size := fun j p k hj hk => own_lt (h.own j p hj) k hk
  have get : ∀ (j : Nat) p, (R ++ Q)[j]? = some p → (j < R.length ∧ R[j]? = some p) ∨ (R.length ≤ j ∧ Q[j - R.length]? = some p) := by
    intro j p hj
    rcases Nat.lt_or_ge j R.length with hl | hl
    · rw [List.getElem?_append_left hl] at hj; exact .inl ⟨hl, hj⟩
    · rw [List.getElem?_append_right hl] at hj; exact .inr ⟨hl, hj⟩
  refine ⟨h'.p0, h'.book, fun j p hj => ?_, fun i j p q hne hi hj => ?_, h.bx, fun i j l p hi hj => ?_, fun j z hz => ?_⟩
  · rcases get j p hj with ⟨_, hj⟩ | ⟨_, hj⟩
    · exact h'.own j p hj
    · exact own_weaken (hr.own _ p hj) h.p0.be.size
  · rcases get i p hi with ⟨_, hi⟩ | ⟨hi0, hi⟩
    · rcases get j q hj with ⟨_, hj⟩ | ⟨_, hj⟩
      · exact h.ap i j p q hne hi hj
      · cases hp : p.1.ownBlock with
        | none => exact .inl rfl
        | some k =>
          right
          intro e
          have := old i p k hi hp
          have := new _ q k hj e.symm
          omega
    · rcases get j q hj with ⟨_, hj⟩ | ⟨hj0, hj⟩
      · cases hp : p.1.ownBlock with
        | none => exact .inl rfl
        | some k =>
          right
          intro e
          have := old j q k hj e.symm
          have := new _ p k hi hp
          omega
      · exact hr.ap _ _ p q (by omega) hi hj
  · rcases get j p hj with ⟨_, hj⟩ | ⟨_, hj⟩
    · exact h.la i j l p hi hj
    · intro e
      have h1 : l.1 < W.heap.size := own_lt (h.p0.lent i l hi) l.1 rfl
      have := new _ p _ hj e
      omega
  · obtain ⟨⟨i, hi, h1⟩, ⟨i2, h2⟩, hl⟩ := h.zr j z hz
    exact ⟨⟨i, hi, by rw [List.getElem?_append_left (List.getElem?_eq_some_iff.1 h1).1]; exact h1⟩, ⟨i2, by rw [List.getElem?_append_left (List.getElem?_eq_some_iff.1 h2).1]; exact h2⟩, hl⟩
theorem Pile0.hold {f : Nat} {cs : List Value} (h : Pile0 w W [] L B) (hf : W.heap[f]? = some (.cells cs.toArray 31 (0, 0))) : Pile0 w W [(f, cs)] L B := by
  refine ⟨h.be, fun p hp => ?_, h.lent, h.lap, h.bit, fun i j p q hne hi hj => ?_⟩
  · obtain rfl : p = (f, cs) := by simpa using hp
    exact hf
  · match i, j, hi, hj with
    | 0, 0, _, _ => exact absurd rfl hne
    | i + 1, _, hi, _ => simp at hi
    | 0, j + 1, _, hj => simp at hj
theorem Pile0.grown {row : Option Nat} (h : Pile0 w W [] L B) (hB : B = []) (hg : W.grownBy W' row) (hr : ∀ k, row = some k → w.heap.size ≤ k ∧ ∃ cs, W.heap[k]? = some (.cells cs 31 (0, 0))) : Pile0 w W' [] L B := by
  subst hB
  have lt : ∀ (k : Nat), row = some k → ∀ (j : Nat) l, L[j]? = some l → l.1 ≠ k := by
    rintro k hk j l hl rfl
    obtain ⟨_, cs, hc⟩ := hr _ hk
    obtain ⟨cs', hc'⟩ := own_typed (h.lent j l hl) l.1 rfl
    rw [hc] at hc'
    injection hc' with hc'
    injection hc' with _ hc'
    exact absurd hc' (by decide)
  refine ⟨h.be.grown hg h.be.size (fun k hk => (hr k hk).1), fun p hp => by simp at hp, fun j l hl => own_other (h.lent j l hl) hg (.inr (fun e => lt l.1 e.symm j l hl rfl)), h.lap, fun j p hj => by simp at hj, fun i j p q _ hi => by simp at hi⟩
theorem own_whole {base n c f : Nat} {e : TypeId} {xs : List Value} (h : W.ownsRow base e 2 (.slice (some ⟨f, 0, none⟩) n c) n xs) : ∃ cs : List Value, W.heap[f]? = some (.cells cs.toArray e (0, 0)) ∧ base ≤ f ∧ n ≤ c ∧ ∀ (j : Nat) u, xs[j]? = some u → cs[j]? = some u := by
  obtain ⟨cs, hc⟩ := own_typed h f rfl
  have hw := own_base h f rfl
  refine ⟨cs.toList, by simpa using hc, hw, own_le h, fun j u hu => ?_⟩
  have h2 := h.cells (g := f) rfl j u hu
  have ad : (⟨f, 0, none⟩ : Addr).add j = ⟨f, j, none⟩ := by cases j <;> simp [Addr.add]
  rw [ad, blk_cell hc j] at h2
  simpa using h2
theorem lents_of {l : List S31} {n : Nat} (h : Pile0 w W T L B) (hL : n ≤ L.length ∧ ∀ i, i < n → (L.getD i (0, 0, [])).2.2 = (l.getD i z31).f1) (i : Nat) (hi : i < n) : LentIs w.heap.size W (L.getD i (0, 0, [])).1 (L.getD i (0, 0, [])).2.1 (l.getD i z31).f1 := by
  have e : L[i]? = some (L.getD i (0, 0, [])) := by
    rw [List.getD_eq_getElem?_getD, List.getElem?_eq_getElem (by have := hL.1; omega)]
    rfl
  have h2 := h.lent i _ e
  rwa [hL.2 i hi] at h2
theorem full_C {l : List S31} {f : Nat} {cs : List Value} {T' : List (Nat × List Value)} (h : Pile0 w W ((f, cs) :: T') L B) (hm : l.length ≤ 9223372036854775807) (hL : l.length ≤ L.length ∧ ∀ i, i < l.length → (L.getD i (0, 0, [])).2.2 = (l.getD i z31).f1)
    (hc : ∀ i, i < l.length → cs[i * 2]? = some (.int .i64 (l.getD i z31).f0) ∧ cs[i * 2 + 1]? = some (.slice (some ⟨(L.getD i (0, 0, [])).1, 0, none⟩) (l.getD i z31).f1.length (L.getD i (0, 0, [])).2.1)) : Kd.C k31 W (some ⟨f, 0, none⟩) l.length l :=
  rows_C hm (fun _ => rfl) (fun i hi => ⟨(h.at_ (i := 0) rfl).2 _ _ (hc i hi).1, (h.at_ (i := 0) rfl).2 _ _ (hc i hi).2⟩) (lents_of h hL)
theorem own_rows_C {base base2 n c : Nat} {A : Option Addr} {l : List S31} {Lf : List (Nat × Nat × List Int)} (ho : W.ownsRow base 31 2 (.slice A n c) n (fullCells l Lf n)) (hn : n = l.length) (hm : l.length ≤ 9223372036854775807)
    (hl : ∀ i, i < l.length → LentIs base2 W (Lf.getD i (0, 0, [])).1 (Lf.getD i (0, 0, [])).2.1 (l.getD i z31).f1) : Kd.C k31 W A l.length l ∧ l.length ≤ c := by
  subst hn
  refine ⟨?_, own_le ho⟩
  by_cases h0 : l.length = 0
  · exact ⟨rfl, hm, fun h => absurd h (by omega)⟩
  · obtain ⟨f, cp, e, _⟩ := ho.form (by omega)
    injection e with e1 e2 e3
    subst e1
    have ad : ∀ q : Nat, (⟨f, 0, none⟩ : Addr).add q = ⟨f, q, none⟩ := fun q => by cases q <;> simp [Addr.add]
    refine rows_C (f := f) hm (fun _ => rfl) (fun i hi => ?_) hl
    obtain ⟨h1, h2⟩ := fullCells_get l Lf l.length i hi
    have c1 := ho.cells (g := f) rfl _ _ h1
    have c2 := ho.cells (g := f) rfl _ _ h2
    rw [ad] at c1 c2
    exact ⟨c1, c2⟩
theorem Pile.grownNew {U : World} {L0 : List (Nat × Nat × List Int)} {row : Option Nat} (h6 : Pile w U b gv wv Z ix R T L0 []) (h : Pile w W b gv wv Z ix R T L []) (hg : W.grownBy W' row) (hU : w.heap.size ≤ U.heap.size)
    (hr : ∀ k, row = some k → U.heap.size ≤ k ∧ ∃ cs, W.heap[k]? = some (.cells cs 31 (0, 0))) : Pile w W' b gv wv Z ix R T L [] := by
  have typed : ∀ {v : Value} {base n : Nat} {e : TypeId} {xs : List Value}, W.ownsRow base e 1 v n xs → 31 ≠ e → W'.ownsRow base e 1 v n xs := fun {v base n e xs} ho hne => by
    refine own_other ho hg ?_
    cases hv : v.ownBlock with
    | none => exact .inl rfl
    | some k =>
      right
      intro ek
      obtain ⟨_, cs, hc⟩ := hr k ek.symm
      obtain ⟨cs', hc'⟩ := own_typed ho k hv
      rw [hc] at hc'
      injection hc' with hc'
      injection hc' with _ hc'
      exact hne hc'
  have old : ∀ k, k < U.heap.size → some k ≠ row := fun k hk e => by
    have := (hr k e.symm).1
    omega
  have rows : ∀ {v : Value} {X Y : List (List Value)}, (Kd.raw 2).R 31 U w.heap.size (fun _ => True) v X → (Kd.raw 2).R 31 W w.heap.size (fun _ => True) v Y → (Kd.raw 2).R 31 W' w.heap.size (fun _ => True) v Y := fun {v X Y} h0 h1 => by
    obtain ⟨h2, inner, ho, hr2⟩ := h1
    exact ⟨h2, inner, own_other ho hg (by
      cases hv : v.ownBlock with
      | none => exact .inl rfl
      | some k => exact .inr (old k (raw_lt h0 k hv))), hr2⟩
  have hbe := h.p0.be.grown hg h.p0.be.size (fun k hk => Nat.le_trans hU (hr k hk).1)
  refine ⟨⟨hbe, fun p hp => blk_grown (h.p0.box p hp) hg (old _ (blk_lt (h6.p0.box p hp))), fun j l hj => typed (h.p0.lent j l hj) (by decide), h.p0.lap, fun j p hj => by simp at hj, h.p0.bd⟩, ⟨blk_grown h.book.hb hg (old _ (blk_lt h6.book.hb)), rows h6.book.rg h.book.rg, rows h6.book.rh h.book.rh, h.book.ap, hbe, h.book.ge⟩,
    fun j p hp => typed (h.own j p hp) (by decide), h.ap, h.bx, h.la, h.zr⟩
end
end Go.Proofs.Ytlghmadoogblcaa.Pile
end
section
namespace Go.Proofs.Ytlghmadoogblcaa.PW
open Go.RowKit Go.Proofs.YtlghmadoogblcaaW.PrintWords Go.Proofs.YtlghmadoogblcaaW.PrintLast Go.Proofs.YtlghmadoogblcaaW.PrintMore
attribute [local go_sem] max2_int min2_int max_two min_two max_three min_three max_four min_four   -- for this text's walks alone
set_option linter.unusedVariables false
set_option linter.unusedSimpArgs false
def vivariumlaw02_alive.f (k : Nat)  : Option (Bool) := (words_Of.f k (([true, false, true] : List Bool))).bind fun bt204 => ((words_Up.f k bt204.1 bt204.2.1 true).bind fun bt210 => ((words_Ones.f k bt210.1 bt210.2.1).bind fun bt217 => ((words_Half.f 12 10).bind fun bt219 => (if bt204.2.2 = 0 then (if bt210.2.2.2 = 0 then (if bt217.2 = 0 then (if bt204.1 = 3 then (if (bt204.2.1.length : Int) = 1 then (if 0 < (bt204.2.1.length : Int) then (if (rd bt204.2.1 0) = 5 then (if bt210.2.2.1 = true then (if bt217.1 = 2 then ((words_Get.f bt210.1 bt210.2.1 1).bind fun t222 => (if t222 = true then ((words_Get.f bt210.1 bt210.2.1 2).bind fun t223 => (if t223 = true then (some false) else (if bt219.1 = 6 then (some (bt219.2 == 8)) else (some false)))) else (some false))) else (some false)) else (some false)) else (some false)) else (none)) else (some false)) else (some false)) else (some false)) else (some false)) else (some false)))))
theorem vivariumlaw02_alive.mono : ∀ k, LeO (vivariumlaw02_alive.f k ) (vivariumlaw02_alive.f (k + 1) ) := by
  intro  k
  unfold vivariumlaw02_alive.f
  repeat' first
      | (with_reducible exact words_Of.mono _ _)
      | (with_reducible exact words_Ones.mono _ _ _)
      | (with_reducible exact words_Up.mono _ _ _ _)
      | (with_reducible exact LeO.refl _)
      | (with_reducible exact LeO.none _)
      | (with_reducible refine LeO.ite ?_ ?_)
      | (with_reducible refine LeO.bind ?_ (fun _ => ?_))
      | exact words_Of.mono _ _
      | exact words_Ones.mono _ _ _
      | exact words_Up.mono _ _ _ _
      | exact LeO.none _
      | refine LeO.ite ?_ ?_
      | refine LeO.bind ?_ (fun _ => ?_)
set_option maxHeartbeats 8000000 in
set_option maxRecDepth 100000 in
theorem vivariumlaw02_alive.calls (k : Nat)  (r : Bool) (w : World) (hrt_ : r = true) (h : vivariumlaw02_alive.f k  = some r) :
    Calls Try.prog 13 #[] w fun e w' => e = .returned (.bool r) ∧ Below w.heap.size w w' := by
  have hu31 := Try.underlying31
  have HB := Aside0.mk (Below.refl w.heap.size w)
  have H : ((words_Of.f k (([true, false, true] : List Bool))).bind fun bt204 => ((words_Up.f k bt204.1 bt204.2.1 true).bind fun bt210 => ((words_Ones.f k bt210.1 bt210.2.1).bind fun bt217 => ((words_Half.f 12 10).bind fun bt219 => (if bt204.2.2 = 0 then (if bt210.2.2.2 = 0 then (if bt217.2 = 0 then (if bt204.1 = 3 then (if (bt204.2.1.length : Int) = 1 then (if 0 < (bt204.2.1.length : Int) then (if (rd bt204.2.1 0) = 5 then (if bt210.2.2.1 = true then (if bt217.1 = 2 then ((words_Get.f bt210.1 bt210.2.1 1).bind fun t222 => (if t222 = true then ((words_Get.f bt210.1 bt210.2.1 2).bind fun t223 => (if t223 = true then (some false) else (if bt219.1 = 6 then (some (bt219.2 == 8)) else (some false)))) else (some false))) else (some false)) else (some false)) else (some false)) else (none)) else (some false)) else (some false)) else (some false)) else (some false)) else (some false)))))) = some r := h
  clear h
  obtain ⟨y201, hy201⟩ : ∃ y_ : List Bool, y_ = (([true, false, true] : List Bool)) := ⟨_, rfl⟩
  replace H : ((words_Of.f k y201).bind fun bt204 => ((words_Up.f k bt204.1 bt204.2.1 true).bind fun bt210 => ((words_Ones.f k bt210.1 bt210.2.1).bind fun bt217 => ((words_Half.f 12 10).bind fun bt219 => (if bt204.2.2 = 0 then (if bt210.2.2.2 = 0 then (if bt217.2 = 0 then (if bt204.1 = 3 then (if (bt204.2.1.length : Int) = 1 then (if 0 < (bt204.2.1.length : Int) then (if (rd bt204.2.1 0) = 5 then (if bt210.2.2.1 = true then (if bt217.1 = 2 then ((words_Get.f bt210.1 bt210.2.1 1).bind fun t222 => (if t222 = true then ((words_Get.f bt210.1 bt210.2.1 2).bind fun t223 => (if t223 = true then (some false) else (if bt219.1 = 6 then (some (bt219.2 == 8)) else (some false)))) else (some false))) else (some false)) else (some false)) else (some false)) else (none)) else (some false)) else (some false)) else (some false)) else (some false)) else (some false)))))) = some r := by first | (rw [hy201]; with_reducible exact H) | (have H2_ := (Option.bind_some _ _).symm.trans H; rw [hy201]; with_reducible exact H2_) | (have H2_ := (Option.bind_some _ _).symm.trans H; with_reducible exact H2_) | with_reducible exact H | (rw [hy201]; exact H) | exact H
  have Ny201 := Aside0.mk hy201
  clear hy201
  replace H := Option.bind_eq_some_iff.mp H
  obtain ⟨⟨t204, t205, t208⟩, A10, H⟩ := H
  replace H : ((words_Up.f k t204 t205 true).bind fun bt210 => ((words_Ones.f k bt210.1 bt210.2.1).bind fun bt217 => ((words_Half.f 12 10).bind fun bt219 => (if t208 = 0 then (if bt210.2.2.2 = 0 then (if bt217.2 = 0 then (if t204 = 3 then (if (t205.length : Int) = 1 then (if 0 < (t205.length : Int) then (if (rd t205 0) = 5 then (if bt210.2.2.1 = true then (if bt217.1 = 2 then ((words_Get.f bt210.1 bt210.2.1 1).bind fun t222 => (if t222 = true then ((words_Get.f bt210.1 bt210.2.1 2).bind fun t223 => (if t223 = true then (some false) else (if bt219.1 = 6 then (some (bt219.2 == 8)) else (some false)))) else (some false))) else (some false)) else (some false)) else (some false)) else (none)) else (some false)) else (some false)) else (some false)) else (some false)) else (some false))))) = some r := H
  have A1 := Aside0.mk A10
  clear A10
  replace H := Option.bind_eq_some_iff.mp H
  obtain ⟨⟨t210, t211, t214, t215⟩, A20, H⟩ := H
  replace H : ((words_Ones.f k t210 t211).bind fun bt217 => ((words_Half.f 12 10).bind fun bt219 => (if t208 = 0 then (if t215 = 0 then (if bt217.2 = 0 then (if t204 = 3 then (if (t205.length : Int) = 1 then (if 0 < (t205.length : Int) then (if (rd t205 0) = 5 then (if t214 = true then (if bt217.1 = 2 then ((words_Get.f t210 t211 1).bind fun t222 => (if t222 = true then ((words_Get.f t210 t211 2).bind fun t223 => (if t223 = true then (some false) else (if bt219.1 = 6 then (some (bt219.2 == 8)) else (some false)))) else (some false))) else (some false)) else (some false)) else (some false)) else (none)) else (some false)) else (some false)) else (some false)) else (some false)) else (some false)))) = some r := H
  have A2 := Aside0.mk A20
  clear A20
  replace H := Option.bind_eq_some_iff.mp H
  obtain ⟨⟨t217, t218⟩, A30, H⟩ := H
  replace H : ((words_Half.f 12 10).bind fun bt219 => (if t208 = 0 then (if t215 = 0 then (if t218 = 0 then (if t204 = 3 then (if (t205.length : Int) = 1 then (if 0 < (t205.length : Int) then (if (rd t205 0) = 5 then (if t214 = true then (if t217 = 2 then ((words_Get.f t210 t211 1).bind fun t222 => (if t222 = true then ((words_Get.f t210 t211 2).bind fun t223 => (if t223 = true then (some false) else (if bt219.1 = 6 then (some (bt219.2 == 8)) else (some false)))) else (some false))) else (some false)) else (some false)) else (some false)) else (none)) else (some false)) else (some false)) else (some false)) else (some false)) else (some false))) = some r := H
  have A3 := Aside0.mk A30
  clear A30
  replace H := Option.bind_eq_some_iff.mp H
  obtain ⟨⟨t219, t220⟩, A40, H⟩ := H
  replace H : (if t208 = 0 then (if t215 = 0 then (if t218 = 0 then (if t204 = 3 then (if (t205.length : Int) = 1 then (if 0 < (t205.length : Int) then (if (rd t205 0) = 5 then (if t214 = true then (if t217 = 2 then ((words_Get.f t210 t211 1).bind fun t222 => (if t222 = true then ((words_Get.f t210 t211 2).bind fun t223 => (if t223 = true then (some false) else (if t219 = 6 then (some (t220 == 8)) else (some false)))) else (some false))) else (some false)) else (some false)) else (some false)) else (none)) else (some false)) else (some false)) else (some false)) else (some false)) else (some false)) = some r := H
  have A4 := Aside0.mk A40
  clear A40
  by_cases c5 : t208 = 0
  · rw [if_pos c5] at H
    have c5b0 : (t208 == 0) = true := beq_iff_eq.mpr c5
    have c5b1 : (t208 != 0) = false := bne_eq_false_iff_eq.mpr c5
    clear c5
    by_cases c6 : t215 = 0
    · rw [if_pos c6] at H
      have c6b0 : (t215 == 0) = true := beq_iff_eq.mpr c6
      have c6b1 : (t215 != 0) = false := bne_eq_false_iff_eq.mpr c6
      clear c6
      by_cases c7 : t218 = 0
      · rw [if_pos c7] at H
        have c7b0 : (t218 == 0) = true := beq_iff_eq.mpr c7
        have c7b1 : (t218 != 0) = false := bne_eq_false_iff_eq.mpr c7
        clear c7
        by_cases c8 : t204 = 3
        · rw [if_pos c8] at H
          have c8b0 : (t204 == 3) = true := beq_iff_eq.mpr c8
          have c8b1 : (t204 != 3) = false := bne_eq_false_iff_eq.mpr c8
          clear c8
          by_cases c9 : (t205.length : Int) = 1
          · rw [if_pos c9] at H
            have c9b0 : ((t205.length : Int) == 1) = true := beq_iff_eq.mpr c9
            have c9b1 : ((t205.length : Int) != 1) = false := bne_eq_false_iff_eq.mpr c9
            clear c9
            by_cases c10 : 0 < (t205.length : Int)
            · rw [if_pos c10] at H
              have c10b0 : decide (0 < (t205.length : Int)) = true := decide_eq_true c10
              have c10b1 : decide (0 < t205.length) = true := decide_eq_true (by omega)
              clear c10
              by_cases c11 : (rd t205 0) = 5
              · rw [if_pos c11] at H
                have c11b0 : ((rd t205 0) == 5) = true := beq_iff_eq.mpr c11
                have c11b1 : ((rd t205 0) != 5) = false := bne_eq_false_iff_eq.mpr c11
                clear c11
                by_cases c12 : t214 = true
                · subst c12
                  have H1 : (if t217 = 2 then ((words_Get.f t210 t211 1).bind fun t222 => (if t222 = true then ((words_Get.f t210 t211 2).bind fun t223 => (if t223 = true then (some false) else (if t219 = 6 then (some (t220 == 8)) else (some false)))) else (some false))) else (some false)) = some r := by rw [if_pos rfl] at H; exact H
                  clear H
                  have H := H1
                  clear H1
                  by_cases c13 : t217 = 2
                  · rw [if_pos c13] at H
                    have c13b0 : (t217 == 2) = true := beq_iff_eq.mpr c13
                    have c13b1 : (t217 != 2) = false := bne_eq_false_iff_eq.mpr c13
                    clear c13
                    replace H := Option.bind_eq_some_iff.mp H
                    obtain ⟨t222, A140, H⟩ := H
                    replace H : (if t222 = true then ((words_Get.f t210 t211 2).bind fun t223 => (if t223 = true then (some false) else (if t219 = 6 then (some (t220 == 8)) else (some false)))) else (some false)) = some r := H
                    have A14 := Aside0.mk A140
                    clear A140
                    by_cases c15 : t222 = true
                    · subst c15
                      have H1 : ((words_Get.f t210 t211 2).bind fun t223 => (if t223 = true then (some false) else (if t219 = 6 then (some (t220 == 8)) else (some false)))) = some r := by rw [if_pos rfl] at H; exact H
                      clear H
                      have H := H1
                      clear H1
                      replace H := Option.bind_eq_some_iff.mp H
                      obtain ⟨t223, A160, H⟩ := H
                      replace H : (if t223 = true then (some false) else (if t219 = 6 then (some (t220 == 8)) else (some false))) = some r := H
                      have A16 := Aside0.mk A160
                      clear A160
                      by_cases c17 : t223 = true
                      · subst c17
                        have H1 : (some false) = some r := by rw [if_pos rfl] at H; exact H
                        exact absurd (Option.some.inj H1) (by rw [hrt_]; decide)
                      · replace c17 := Bool.eq_false_iff.mpr c17
                        subst c17
                        have H1 : (if t219 = 6 then (some (t220 == 8)) else (some false)) = some r := by rw [if_neg (show ¬ (false = true) by decide)] at H; exact H
                        clear H
                        have H := H1
                        clear H1
                        by_cases c36 : t219 = 6
                        · rw [if_pos c36] at H
                          have c36b0 : (t219 == 6) = true := beq_iff_eq.mpr c36
                          have c36b1 : (t219 != 6) = false := bne_eq_false_iff_eq.mpr c36
                          clear c36
                          obtain rfl := Option.some.inj H
                          go_enter Try.func13, Try.ntmps13
                          go_wp2_with (first | ((with_reducible refine gate_dst (N := 11) rfl ?_); (try (refine gate_guard (by rfl) ?_; dsimp only)); refine Kd.R_lit Kd.bool _ 4 ?hg (N := 11) ?hd (xs := ([true, false, true] : List Bool)) (inner := [.bool true, .bool false, .bool true]) (ok := fun _ => True) (okp := fun _ => True) ?hr ?hp (fun _ hk => hk) trivial (Below.refl _ _) (Nat.le_refl _) (by simp) ?_; (case hd => rfl); (case hg => rfl); (case hr => first | (go_simp; done) | (go_simp; rfl)); (case hp => exact (Reps.one (show Kd.M Kd.bool _ _ _ true [.bool true] from rfl) (Reps.one (show Kd.M Kd.bool _ _ _ false [.bool false] from rfl) (Reps.one (show Kd.M Kd.bool _ _ _ true [.bool true] from rfl) (Reps.none _ _))))); intro v202 w37 ho38 hb hg_ hnew_; clear hg_ hnew_; (first | rw [← Ny201.out] at ho38 | (simp only [Int.reduceToNat] at ho38; rw [← Ny201.out] at ho38)); have n0_ := Aside0.mk (Kd.R_lower ho38 (below_size (by repeat (first | (with_reducible first | exact HB.out | apply below_alloc | apply pw_below_drewN | apply below_drew1) | exact HB.out)))); have n1_ := Aside0.mk (below_step (by repeat (first | (with_reducible first | exact HB.out | apply below_alloc | apply pw_below_drewN | apply below_drew1) | exact HB.out)) hb); clear HB; have HO203 := n0_; have HB := n1_; clear n0_ n1_; clear hb ho38; obtain ⟨Ao39, co39, eo39⟩ := Kd.R_slice HO203.out; subst eo39) | ((with_reducible refine gate_callee (f := 18) rfl ?_); refine goesL_ (some 12) rfl rfl Try.func18 (by kernel_rfl) rfl #[.slice Ao39 y201.length co39] rfl (by (try simp only [List.map_toArray, List.map_cons, List.map_nil]); first | done | rfl | (simp only [List.length_drop, List.length_take]; rfl)) ?_; (with_reducible refine (words_Of.calls k _ _ y201 t204 t205 t208 _ ?side1 ?side2 A1.out).mono ?_); (case side1 => repeat (first | exact (Kd.R_reads' HO203.out).2.2 | (with_reducible refine Kd.C_alloc ?_ _) | (with_reducible refine Kd.C_drewN ?_ _) | (with_reducible refine Kd.C_drew ?_))); (case side2 => exact (Kd.R_reads' HO203.out).2.1); rintro e w40 ⟨v206, rfl, ho0, hb⟩; refine ⟨_, rfl, ?_⟩; have n0_ := Aside0.mk (Kd.R_below (by (with_reducible repeat (first | apply Kd.R_alloc | apply Kd.R_drewN | apply Kd.R_drew)); exact HO203.out) hb); have n1_ := Aside0.mk (Kd.R_lower ho0 (below_size (by repeat (first | (with_reducible first | exact HB.out | apply below_alloc | apply pw_below_drewN | apply below_drew1) | exact HB.out)))); have n2_ := Aside0.mk (below_step (by repeat (first | (with_reducible first | exact HB.out | apply below_alloc | apply pw_below_drewN | apply below_drew1) | exact HB.out)) hb); clear HO203; clear HB; have HO203 := n0_; have HO207 := n1_; have HB := n2_; clear n0_ n1_ n2_; (try clear hb); (try clear hb2); (try clear hk); (try clear hi); (try clear ho0)) | ((with_reducible refine gate_dst (N := 1) rfl ?_); (try (refine gate_guard (by rfl) ?_; dsimp only)); refine box_event ?hg (N := 1) ?hd (cs := #[.int .i64 0, .slice none 0 0]) (t := 31) ?hr ?_; (case hd => rfl); (case hg => rfl); (case hr => first | (go_simp; done) | (go_simp; rfl)); intro gb209 hg w41 hbox hb; have n0_ := Aside0.mk (Kd.R_below (by (with_reducible repeat (first | apply Kd.R_alloc | apply Kd.R_drewN | apply Kd.R_drew)); exact HO203.out) hb); have n1_ := Aside0.mk (Kd.R_below (by (with_reducible repeat (first | apply Kd.R_alloc | apply Kd.R_drewN | apply Kd.R_drew)); exact HO207.out) hb); have n2_ := Aside0.mk (below_step (by repeat (first | (with_reducible first | exact HB.out | apply below_alloc | apply pw_below_drewN | apply below_drew1) | exact HB.out)) hb); have n3_ := Aside0.mk (hbox); have n4_ := Aside0.mk ((by rw [hg]; exact (below_size (by repeat (first | (with_reducible first | exact HB.out | apply below_alloc | apply pw_below_drewN | apply below_drew1) | exact HB.out))) : w.heap.size ≤ gb209)); have n5_ := Aside0.mk ((by rw [hg]; exact (below_size (by repeat (first | (with_reducible first | exact HB.out | apply below_alloc | apply pw_below_drewN | apply below_drew1) | exact HB.out))) : w.heap.size ≤ gb209)); clear HO203; clear HO207; clear HB; have HO203 := n0_; have HO207 := n1_; have HB := n2_; have BK209 := n3_; have GW209 := n4_; have GE209 := n5_; clear n0_ n1_ n2_ n3_ n4_ n5_; clear hb hbox hg; have hcz42_0 : w41.cell? ⟨gb209, 0, none⟩ = some (.int .i64 0) := (blk_cell BK209.out 0).trans rfl; have hcz42_1 : w41.cell? ⟨gb209, 1, none⟩ = some (.slice none 0 0) := (blk_cell BK209.out 1).trans rfl; have hfz42_0 := blk_frozen BK209.out 0; have hfz42_1 := blk_frozen BK209.out 1; obtain ⟨Ao43, co43, eo43⟩ := Kd.R_slice HO207.out; subst eo43) | ((with_reducible refine gate_callee (f := 45) rfl ?_); refine goesL_ (some 17) rfl rfl Try.func45 (by kernel_rfl) rfl #[.agg #[.int .i64 t204, .slice Ao43 t205.length co43], .bool true] rfl (by (try simp only [List.map_toArray, List.map_cons, List.map_nil]); first | done | rfl | (simp only [List.length_drop, List.length_take]; rfl)) ?_; (with_reducible refine (words_Up.calls k t204 _ _ t205 true t210 t211 true t215 _ ?side1 ?side2 A2.out).mono ?_); (case side1 => refine (Kd.R_reads' (e := 22) (base := w.heap.size) (ok := fun k_ => True) (n := t205.length) (c := co43) ?_).2.2; exact (by (with_reducible repeat (first | apply Kd.R_alloc | apply Kd.R_drewN | apply Kd.R_drew)); exact (Kd.R_mono (Kd.R_far (p := ⟨gb209, 1, none⟩) (Kd.R_far (p := ⟨gb209, 0, none⟩) (Kd.R_types HO207.out BK209.out (by decide)) (fun _ hk => hk.2) (.int .i64 t204)) (fun _ hk => hk.2) (.slice Ao43 t205.length co43)) (fun _ h_ => h_.1)))); (case side2 => exact (Kd.R_reads' HO207.out).2.1); rintro e w44 ⟨v212, rfl, ho0, hb⟩; refine ⟨_, rfl, ?_⟩; have n0_ := Aside0.mk (Kd.R_below (by (with_reducible repeat (first | apply Kd.R_alloc | apply Kd.R_drewN | apply Kd.R_drew)); exact (Kd.R_mono (Kd.R_far (p := ⟨gb209, 1, none⟩) (Kd.R_far (p := ⟨gb209, 0, none⟩) (Kd.R_types HO203.out BK209.out (by decide)) (fun _ hk => hk.2) (.int .i64 t204)) (fun _ hk => hk.2) (.slice Ao43 t205.length co43)) (fun _ h_ => h_.1))) hb); have n1_ := Aside0.mk (Kd.R_elder' (by (with_reducible repeat (first | apply Kd.R_alloc | apply Kd.R_drewN | apply Kd.R_drew)); exact (Kd.R_mono (Kd.R_far (p := ⟨gb209, 1, none⟩) (Kd.R_far (p := ⟨gb209, 0, none⟩) (Kd.R_types HO207.out BK209.out (by decide)) (fun _ hk => hk.2) (.int .i64 t204)) (fun _ hk => hk.2) (.slice Ao43 t205.length co43)) (fun _ h_ => h_.1))) (Kd.R_base ho0) hb); have n2_ := Aside0.mk (Kd.R_lower (Kd.R_new' ho0 (Kd.R_lt (by (with_reducible repeat (first | apply Kd.R_alloc | apply Kd.R_drewN | apply Kd.R_drew)); exact (Kd.R_mono (Kd.R_far (p := ⟨gb209, 1, none⟩) (Kd.R_far (p := ⟨gb209, 0, none⟩) (Kd.R_types HO207.out BK209.out (by decide)) (fun _ hk => hk.2) (.int .i64 t204)) (fun _ hk => hk.2) (.slice Ao43 t205.length co43)) (fun _ h_ => h_.1))))) (below_size (by repeat (first | (with_reducible first | exact HB.out | apply below_alloc | apply pw_below_drewN | apply below_drew1 | refine below_set ?_ GE209.out) | exact HB.out)))); have n3_ := Aside0.mk (blk_below (g := gb209) (o := .cells #[.int .i64 t204, .slice Ao43 t205.length co43] 31 (0, 0)) (by (with_reducible repeat (first | refine blk_drewN ?_ _ | refine blk_drew ?_ | refine blk_alloc ?_ _)); refine blk_put (cs := #[.int .i64 t204, .slice none 0 0]) ?_ 1 _ rfl; (with_reducible repeat (first | refine blk_drewN ?_ _ | refine blk_drew ?_ | refine blk_alloc ?_ _)); refine blk_put (cs := #[.int .i64 0, .slice none 0 0]) ?_ 0 _ rfl; (with_reducible repeat (first | refine blk_drewN ?_ _ | refine blk_drew ?_ | refine blk_alloc ?_ _)); exact BK209.out) hb); have n4_ := Aside0.mk (below_step (by repeat (first | (with_reducible first | exact HB.out | apply below_alloc | apply pw_below_drewN | apply below_drew1 | refine below_set ?_ GE209.out) | exact HB.out)) hb); clear HO203; clear HO207; clear BK209; clear HB; have HO203 := n0_; have HO207 := n1_; have HO213 := n2_; have BK209 := n3_; have HB := n4_; clear n0_ n1_ n2_ n3_ n4_; (try clear hb); (try clear hb2); (try clear hk); (try clear hi); (try clear ho0)) | ((with_reducible refine gate_dst (N := 3) rfl ?_); (try (refine gate_guard (by rfl) ?_; dsimp only)); refine box_event ?hg (N := 3) ?hd (cs := #[.int .i64 0, .slice none 0 0]) (t := 31) ?hr ?_; (case hd => rfl); (case hg => rfl); (case hr => first | (go_simp; done) | (go_simp; rfl)); intro gb216 hg w45 hbox hb; have n0_ := Aside0.mk (Kd.R_below (by (with_reducible repeat (first | apply Kd.R_alloc | apply Kd.R_drewN | apply Kd.R_drew)); exact HO203.out) hb); have n1_ := Aside0.mk (Kd.R_below (by (with_reducible repeat (first | apply Kd.R_alloc | apply Kd.R_drewN | apply Kd.R_drew)); exact HO207.out) hb); have n2_ := Aside0.mk (Kd.R_below (by (with_reducible repeat (first | apply Kd.R_alloc | apply Kd.R_drewN | apply Kd.R_drew)); exact HO213.out) hb); have n3_ := Aside0.mk (blk_below (g := gb209) (o := .cells #[.int .i64 t204, .slice Ao43 t205.length co43] 31 (0, 0)) (by (with_reducible repeat (first | refine blk_drewN ?_ _ | refine blk_drew ?_ | refine blk_alloc ?_ _)); exact BK209.out) hb); have n4_ := Aside0.mk (below_step (by repeat (first | (with_reducible first | exact HB.out | apply below_alloc | apply pw_below_drewN | apply below_drew1 | refine below_set ?_ GE209.out) | exact HB.out)) hb); have n5_ := Aside0.mk (hbox); have n6_ := Aside0.mk ((by rw [hg]; exact (below_size (by repeat (first | (with_reducible first | exact HB.out | apply below_alloc | apply pw_below_drewN | apply below_drew1 | refine below_set ?_ GE209.out) | exact HB.out))) : w.heap.size ≤ gb216)); have n7_ := Aside0.mk ((by rw [hg]; exact (below_size (by repeat (first | (with_reducible first | exact HB.out | apply below_alloc | apply pw_below_drewN | apply below_drew1 | refine below_set ?_ GE209.out) | exact HB.out))) : w.heap.size ≤ gb216)); have n8_ := Aside0.mk ((by rw [hg]; exact Nat.ne_of_lt (blk_lt (g := gb209) (o := .cells #[.int .i64 t204, .slice Ao43 t205.length co43] 31 (0, 0)) (by (with_reducible repeat (first | refine blk_drewN ?_ _ | refine blk_drew ?_ | refine blk_alloc ?_ _)); exact BK209.out)) : gb209 ≠ gb216)); have n9_ := Aside0.mk ((by rw [hg]; exact Nat.ne_of_gt (blk_lt (g := gb209) (o := .cells #[.int .i64 t204, .slice Ao43 t205.length co43] 31 (0, 0)) (by (with_reducible repeat (first | refine blk_drewN ?_ _ | refine blk_drew ?_ | refine blk_alloc ?_ _)); exact BK209.out)) : gb216 ≠ gb209)); clear HO203; clear HO207; clear HO213; clear BK209; clear HB; have HO203 := n0_; have HO207 := n1_; have HO213 := n2_; have BK209 := n3_; have HB := n4_; have BK216 := n5_; have GW216 := n6_; have GE216 := n7_; have NB209_216 := n8_; have NB216_209 := n9_; clear n0_ n1_ n2_ n3_ n4_ n5_ n6_ n7_ n8_ n9_; clear hb hbox hg; have hnb46 := NB216_209.out; have hnc46 := NB209_216.out; have hcz47_0 : w45.cell? ⟨gb216, 0, none⟩ = some (.int .i64 0) := (blk_cell BK216.out 0).trans rfl; have hcz47_1 : w45.cell? ⟨gb216, 1, none⟩ = some (.slice none 0 0) := (blk_cell BK216.out 1).trans rfl; have hfz47_0 := blk_frozen BK216.out 0; have hfz47_1 := blk_frozen BK216.out 1; obtain ⟨Ao48, co48, eo48⟩ := Kd.R_slice HO213.out; subst eo48) | ((with_reducible refine gate_callee (f := 46) rfl ?_); refine goesL_ (some 23) rfl rfl Try.func46 (by kernel_rfl) rfl #[.agg #[.int .i64 t210, .slice Ao48 t211.length co48]] rfl (by (try simp only [List.map_toArray, List.map_cons, List.map_nil]); first | done | rfl | (simp only [List.length_drop, List.length_take]; rfl)) ?_; (with_reducible refine (words_Ones.calls k t210 _ _ t211 t217 t218 _ ?side1 ?side2 A3.out).mono ?_); (case side1 => refine (Kd.R_reads' (e := 22) (base := w.heap.size) (ok := fun k_ => (True ∧ some k_ ≠ (.slice Ao43 t205.length co43 : Value).ownBlock)) (n := t211.length) (c := co48) ?_).2.2; exact (by (with_reducible repeat (first | apply Kd.R_alloc | apply Kd.R_drewN | apply Kd.R_drew)); exact (Kd.R_mono (Kd.R_far (p := ⟨gb216, 1, none⟩) (Kd.R_far (p := ⟨gb216, 0, none⟩) (Kd.R_types HO213.out BK216.out (by decide)) (fun _ hk => hk.2) (.int .i64 t210)) (fun _ hk => hk.2) (.slice Ao48 t211.length co48)) (fun _ h_ => h_.1)))); (case side2 => exact (Kd.R_reads' HO213.out).2.1); rintro e w49 ⟨rfl, hb⟩; refine ⟨_, rfl, ?_⟩; have n0_ := Aside0.mk (Kd.R_below (by (with_reducible repeat (first | apply Kd.R_alloc | apply Kd.R_drewN | apply Kd.R_drew)); exact (Kd.R_mono (Kd.R_far (p := ⟨gb216, 1, none⟩) (Kd.R_far (p := ⟨gb216, 0, none⟩) (Kd.R_types HO203.out BK216.out (by decide)) (fun _ hk => hk.2) (.int .i64 t210)) (fun _ hk => hk.2) (.slice Ao48 t211.length co48)) (fun _ h_ => h_.1))) hb); have n1_ := Aside0.mk (Kd.R_below (by (with_reducible repeat (first | apply Kd.R_alloc | apply Kd.R_drewN | apply Kd.R_drew)); exact (Kd.R_mono (Kd.R_far (p := ⟨gb216, 1, none⟩) (Kd.R_far (p := ⟨gb216, 0, none⟩) (Kd.R_types HO207.out BK216.out (by decide)) (fun _ hk => hk.2) (.int .i64 t210)) (fun _ hk => hk.2) (.slice Ao48 t211.length co48)) (fun _ h_ => h_.1))) hb); have n2_ := Aside0.mk (Kd.R_below (by (with_reducible repeat (first | apply Kd.R_alloc | apply Kd.R_drewN | apply Kd.R_drew)); exact (Kd.R_mono (Kd.R_far (p := ⟨gb216, 1, none⟩) (Kd.R_far (p := ⟨gb216, 0, none⟩) (Kd.R_types HO213.out BK216.out (by decide)) (fun _ hk => hk.2) (.int .i64 t210)) (fun _ hk => hk.2) (.slice Ao48 t211.length co48)) (fun _ h_ => h_.1))) hb); have n3_ := Aside0.mk (blk_below (g := gb209) (o := .cells #[.int .i64 t204, .slice Ao43 t205.length co43] 31 (0, 0)) (by (with_reducible repeat (first | refine blk_drewN ?_ _ | refine blk_drew ?_ | refine blk_alloc ?_ _)); refine blk_far ?_ NB209_216.out _; (with_reducible repeat (first | refine blk_drewN ?_ _ | refine blk_drew ?_ | refine blk_alloc ?_ _)); refine blk_far ?_ NB209_216.out _; (with_reducible repeat (first | refine blk_drewN ?_ _ | refine blk_drew ?_ | refine blk_alloc ?_ _)); exact BK209.out) hb); have n4_ := Aside0.mk (blk_below (g := gb216) (o := .cells #[.int .i64 t210, .slice Ao48 t211.length co48] 31 (0, 0)) (by (with_reducible repeat (first | refine blk_drewN ?_ _ | refine blk_drew ?_ | refine blk_alloc ?_ _)); refine blk_put (cs := #[.int .i64 t210, .slice none 0 0]) ?_ 1 _ rfl; (with_reducible repeat (first | refine blk_drewN ?_ _ | refine blk_drew ?_ | refine blk_alloc ?_ _)); refine blk_put (cs := #[.int .i64 0, .slice none 0 0]) ?_ 0 _ rfl; (with_reducible repeat (first | refine blk_drewN ?_ _ | refine blk_drew ?_ | refine blk_alloc ?_ _)); exact BK216.out) hb); have n5_ := Aside0.mk (below_step (by repeat (first | (with_reducible first | exact HB.out | apply below_alloc | apply pw_below_drewN | apply below_drew1 | refine below_set ?_ GE209.out | refine below_set ?_ GE216.out) | exact HB.out)) hb); clear HO203; clear HO207; clear HO213; clear BK209; clear BK216; clear HB; have HO203 := n0_; have HO207 := n1_; have HO213 := n2_; have BK209 := n3_; have BK216 := n4_; have HB := n5_; clear n0_ n1_ n2_ n3_ n4_ n5_; (try clear hb); (try clear hb2); (try clear hk); (try clear hi)) | ((with_reducible refine gate_callee (f := 14) rfl ?_); refine goesL_ (some 27) rfl rfl Try.func14 (by kernel_rfl) rfl #[.int .u64 12, .int .u64 10] rfl (by (try simp only [List.map_toArray, List.map_cons, List.map_nil]); first | done | rfl | (simp only [List.length_drop, List.length_take]; rfl)) ?_; (with_reducible refine (words_Half.calls 12 10 t219 t220 _ A4.out).mono ?_); rintro e w' ⟨rfl, ⟨nd, rfl⟩⟩; refine ⟨_, rfl, ?_⟩; have hcz50_0 : w49.cell? ⟨gb209, 0, none⟩ = some (.int .i64 t204) := (blk_cell BK209.out 0).trans rfl; have hcz50_1 : w49.cell? ⟨gb209, 1, none⟩ = some (.slice Ao43 t205.length co43) := (blk_cell BK209.out 1).trans rfl; have hfz50_0 := blk_frozen BK209.out 0; have hfz50_1 := blk_frozen BK209.out 1; have p221 : 0 ≤ (0 : Int) := (by omega); have q221 : 0 < (t205.length : Int) := of_decide_eq_true (by first | (with_reducible assumption) | assumption); obtain ⟨ad221, e221, hx221_0⟩ := Kd.at_int (Kd.R_reads' HO207.out).2.2 0 p221 q221; cases e221; have qi221 : (0 < t205.length) = True := eq_true (by omega); (try rw [show ((0 : Int)).toNat = 0 from rfl] at hx221_0); (try rw [Addr.add_zero'] at hx221_0); replace p221 := eq_true p221; replace q221 := eq_true q221; have hcz51_0 : w49.cell? ⟨gb216, 0, none⟩ = some (.int .i64 t210) := (blk_cell BK216.out 0).trans rfl; have hcz51_1 : w49.cell? ⟨gb216, 1, none⟩ = some (.slice Ao48 t211.length co48) := (blk_cell BK216.out 1).trans rfl; have hfz51_0 := blk_frozen BK216.out 0; have hfz51_1 := blk_frozen BK216.out 1) | (go_at_call 27; (with_reducible refine (words_Get.calls t210 _ _ t211 1 true _ ?side1 ?side2 A14.out).mono ?_); (case side1 => repeat (first | exact (Kd.R_reads' HO213.out).2.2 | (with_reducible refine Kd.C_alloc ?_ _) | (with_reducible refine Kd.C_drewN ?_ _) | (with_reducible refine Kd.C_drew ?_))); (case side2 => exact (Kd.R_reads' HO213.out).2.1); rintro e w52 ⟨rfl, hb⟩; have n0_ := Aside0.mk (Kd.R_below (by (with_reducible repeat (first | apply Kd.R_alloc | apply Kd.R_drewN | apply Kd.R_drew)); exact HO203.out) hb); have n1_ := Aside0.mk (Kd.R_below (by (with_reducible repeat (first | apply Kd.R_alloc | apply Kd.R_drewN | apply Kd.R_drew)); exact HO207.out) hb); have n2_ := Aside0.mk (Kd.R_below (by (with_reducible repeat (first | apply Kd.R_alloc | apply Kd.R_drewN | apply Kd.R_drew)); exact HO213.out) hb); have n3_ := Aside0.mk (blk_below (g := gb209) (o := .cells #[.int .i64 t204, .slice (some ad221) t205.length co43] 31 (0, 0)) (by (with_reducible repeat (first | refine blk_drewN ?_ _ | refine blk_drew ?_ | refine blk_alloc ?_ _)); exact BK209.out) hb); have n4_ := Aside0.mk (blk_below (g := gb216) (o := .cells #[.int .i64 t210, .slice Ao48 t211.length co48] 31 (0, 0)) (by (with_reducible repeat (first | refine blk_drewN ?_ _ | refine blk_drew ?_ | refine blk_alloc ?_ _)); exact BK216.out) hb); have n5_ := Aside0.mk (below_step (by repeat (first | (with_reducible first | exact HB.out | apply below_alloc | apply pw_below_drewN | apply below_drew1 | refine below_set ?_ GE209.out | refine below_set ?_ GE216.out) | exact HB.out)) hb); clear HO203; clear HO207; clear HO213; clear BK209; clear BK216; clear HB; have HO203 := n0_; have HO207 := n1_; have HO213 := n2_; have BK209 := n3_; have BK216 := n4_; have HB := n5_; clear n0_ n1_ n2_ n3_ n4_ n5_; (try clear hb); (try clear hb2); (try clear hk); (try clear hi); have hcz53_0 : w52.cell? ⟨gb216, 0, none⟩ = some (.int .i64 t210) := (blk_cell BK216.out 0).trans rfl; have hcz53_1 : w52.cell? ⟨gb216, 1, none⟩ = some (.slice Ao48 t211.length co48) := (blk_cell BK216.out 1).trans rfl; have hfz53_0 := blk_frozen BK216.out 0; have hfz53_1 := blk_frozen BK216.out 1) | (go_at_call 27; (with_reducible refine (words_Get.calls t210 _ _ t211 2 false _ ?side1 ?side2 A16.out).mono ?_); (case side1 => repeat (first | exact (Kd.R_reads' HO213.out).2.2 | (with_reducible refine Kd.C_alloc ?_ _) | (with_reducible refine Kd.C_drewN ?_ _) | (with_reducible refine Kd.C_drew ?_))); (case side2 => exact (Kd.R_reads' HO213.out).2.1); rintro e w54 ⟨rfl, hb⟩; have n0_ := Aside0.mk (Kd.R_below (by (with_reducible repeat (first | apply Kd.R_alloc | apply Kd.R_drewN | apply Kd.R_drew)); exact HO203.out) hb); have n1_ := Aside0.mk (Kd.R_below (by (with_reducible repeat (first | apply Kd.R_alloc | apply Kd.R_drewN | apply Kd.R_drew)); exact HO207.out) hb); have n2_ := Aside0.mk (Kd.R_below (by (with_reducible repeat (first | apply Kd.R_alloc | apply Kd.R_drewN | apply Kd.R_drew)); exact HO213.out) hb); have n3_ := Aside0.mk (blk_below (g := gb209) (o := .cells #[.int .i64 t204, .slice (some ad221) t205.length co43] 31 (0, 0)) (by (with_reducible repeat (first | refine blk_drewN ?_ _ | refine blk_drew ?_ | refine blk_alloc ?_ _)); exact BK209.out) hb); have n4_ := Aside0.mk (blk_below (g := gb216) (o := .cells #[.int .i64 t210, .slice Ao48 t211.length co48] 31 (0, 0)) (by (with_reducible repeat (first | refine blk_drewN ?_ _ | refine blk_drew ?_ | refine blk_alloc ?_ _)); exact BK216.out) hb); have n5_ := Aside0.mk (below_step (by repeat (first | (with_reducible first | exact HB.out | apply below_alloc | apply pw_below_drewN | apply below_drew1 | refine below_set ?_ GE209.out | refine below_set ?_ GE216.out) | exact HB.out)) hb); clear HO203; clear HO207; clear HO213; clear BK209; clear BK216; clear HB; have HO203 := n0_; have HO207 := n1_; have HO213 := n2_; have BK209 := n3_; have BK216 := n4_; have HB := n5_; clear n0_ n1_ n2_ n3_ n4_ n5_; (try clear hb); (try clear hb2); (try clear hk); (try clear hi)))
                          go_ret
                          exact ⟨by first | rfl | (simp [errW_none, errW_some] <;> rfl) | (simp [*, errW_none, errW_some] <;> rfl), by repeat (first | (with_reducible first | exact HB.out | apply below_alloc | apply pw_below_drewN | apply below_drew1 | refine below_set ?_ GE209.out | refine below_set ?_ GE216.out) | exact HB.out)⟩
                        · rw [if_neg c36] at H
                          exact absurd (Option.some.inj H) (by rw [hrt_]; decide)
                    · replace c15 := Bool.eq_false_iff.mpr c15
                      subst c15
                      have H1 : (some false) = some r := by rw [if_neg (show ¬ (false = true) by decide)] at H; exact H
                      exact absurd (Option.some.inj H1) (by rw [hrt_]; decide)
                  · rw [if_neg c13] at H
                    exact absurd (Option.some.inj H) (by rw [hrt_]; decide)
                · replace c12 := Bool.eq_false_iff.mpr c12
                  subst c12
                  have H1 : (some false) = some r := by rw [if_neg (show ¬ (false = true) by decide)] at H; exact H
                  exact absurd (Option.some.inj H1) (by rw [hrt_]; decide)
              · rw [if_neg c11] at H
                exact absurd (Option.some.inj H) (by rw [hrt_]; decide)
            · rw [if_neg c10] at H
              exact absurd H (by simp)
          · rw [if_neg c9] at H
            exact absurd (Option.some.inj H) (by rw [hrt_]; decide)
        · rw [if_neg c8] at H
          exact absurd (Option.some.inj H) (by rw [hrt_]; decide)
      · rw [if_neg c7] at H
        exact absurd (Option.some.inj H) (by rw [hrt_]; decide)
    · rw [if_neg c6] at H
      exact absurd (Option.some.inj H) (by rw [hrt_]; decide)
  · rw [if_neg c5] at H
    exact absurd (Option.some.inj H) (by rw [hrt_]; decide)
end Go.Proofs.Ytlghmadoogblcaa.PW
end
section
namespace Go.Proofs.Ytlghmadoogblcaa.Alive
open Go.RowKit Go.Proofs.Ytlghmadoogblcaa.PW Go.Proofs.YtlghmadoogblcaaW.PrintWords Go.Proofs.YtlghmadoogblcaaW.PrintLast Go.Proofs.YtlghmadoogblcaaW.PrintMore
set_option maxRecDepth 100000
theorem alive_true : vivariumlaw02_alive.f 100 = some true := by decide +kernel
end Go.Proofs.Ytlghmadoogblcaa.Alive
end
