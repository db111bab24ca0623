/- The row of WordsJoins. -/
import Derived.Test.YtlghmadoogblcaaKJoins4
section
namespace Go.Proofs.Ytlghmadoogblcaa.PW
open Go.RowKit Go.Proofs.YtlghmadoogblcaaW.PrintWords Go.Proofs.YtlghmadoogblcaaW.PrintLast Go.Proofs.YtlghmadoogblcaaW.PrintMore
attribute [local go_sem] max2_int min2_int max_two min_two max_three min_three max_four min_four   -- for this text's walks alone
set_option linter.unusedVariables false
set_option linter.unusedSimpArgs false
def words_Ones.l0 : Nat → Int → List Int → Int → Int → Option (Int × Int)
  | 0, _, _, _, _ => none
  | k + 1, x4, x11, x12, x13 => if x13 < x12 then (if 0 ≤ x13 then (if x13 < (x11.length : Int) then ((bits_OnesCount64.f (rd x11 x13)).bind fun t196 => (words_Ones.l0 k (wrap64 (x4 + t196)) x11 x12 (wrap64 (x13 + 1)))) else (none)) else (none)) else (some (x4, 0))
def words_Ones.f (k : Nat) (a0_0 : Int) (l0_1 : List Int) : Option (Int × Int) := (words_Valid.f a0_0 l0_1).bind fun t194 => (if t194 = true then (words_Ones.l0 k 0 l0_1 (l0_1.length : Int) 0) else (some (0, 20)))
theorem words_Ones.mono_l : ∀ k, (∀ y0 y1 y2 y3, LeO (words_Ones.l0 k y0 y1 y2 y3) (words_Ones.l0 (k + 1) y0 y1 y2 y3))
  | 0 => fun _ _ _ _ r h => by simp [words_Ones.l0] at h
  | k + 1 => by
    have ih0 := words_Ones.mono_l k
    · intro y0 y1 y2 y3
      unfold words_Ones.l0
      repeat' first
      | (with_reducible exact ih0 _ _ _ _)
      | (with_reducible exact LeO.refl _)
      | (with_reducible exact LeO.none _)
      | (with_reducible refine LeO.ite ?_ ?_)
      | (with_reducible refine LeO.bind ?_ (fun _ => ?_))
      | exact ih0 _ _ _ _
      | exact LeO.none _
      | refine LeO.ite ?_ ?_
      | refine LeO.bind ?_ (fun _ => ?_)
theorem words_Ones.mono : ∀ a0 a1 k, LeO (words_Ones.f k a0 a1) (words_Ones.f (k + 1) a0 a1) := by
  intro a0 a1 k
  have ih0 := words_Ones.mono_l k
  unfold words_Ones.f
  repeat' first
      | (with_reducible exact ih0 _ _ _ _)
      | (with_reducible exact LeO.refl _)
      | (with_reducible exact LeO.none _)
      | (with_reducible refine LeO.ite ?_ ?_)
      | (with_reducible refine LeO.bind ?_ (fun _ => ?_))
      | exact ih0 _ _ _ _
      | exact LeO.none _
      | refine LeO.ite ?_ ?_
      | refine LeO.bind ?_ (fun _ => ?_)
set_option maxHeartbeats 8000000 in
set_option maxRecDepth 100000 in
theorem words_Ones.calls (k : Nat) (a0_0 : Int) (A0_1 : Option Addr) (c0_1 : Nat) (l0_1 : List Int) (r1 : Int) (r2 : Int) (w : World) (hr0_1 : Kd.C (Kd.int .u64) w A0_1 l0_1.length l0_1) (hc0_1 : l0_1.length ≤ c0_1) (h : words_Ones.f k a0_0 l0_1 = some (r1, r2)) :
    Calls Try.prog 46 #[.agg #[.int .i64 a0_0, .slice A0_1 l0_1.length c0_1]] w fun e w' => e = .returned (.tuple #[.int .i64 r1, .int .i64 r2]) ∧ Below w.heap.size w w' := by
  have hu31 := Try.underlying31
  have HR0_1 := Aside0.mk hr0_1
  have HC0_1 := Aside0.mk hc0_1
  clear hr0_1 hc0_1
  have HB := Aside0.mk (Below.refl w.heap.size w)
  have H : ((words_Valid.f a0_0 l0_1).bind fun t194 => (if t194 = true then (words_Ones.l0 k 0 l0_1 (l0_1.length : Int) 0) else (some (0, 20)))) = some (r1, r2) := h
  clear h
  replace H := Option.bind_eq_some_iff.mp H
  obtain ⟨t194, A20, H⟩ := H
  replace H : (if t194 = true then (words_Ones.l0 k 0 l0_1 (l0_1.length : Int) 0) else (some (0, 20))) = some (r1, r2) := H
  have A2 := Aside0.mk A20
  clear A20
  by_cases c3 : t194 = true
  · subst c3
    have H1 : (words_Ones.l0 k 0 l0_1 (l0_1.length : Int) 0) = some (r1, r2) := by rw [if_pos rfl] at H; exact H
    clear H
    have H := H1
    clear H1
    have H' := Aside0.mk H
    clear H
    go_enter Try.func46, Try.ntmps46
    go_wp2_with (first | ((with_reducible refine gate_dst (N := 1) rfl ?_); refine box_event ?hg (N := 1) ?hd (cs := #[.int .i64 a0_0, .slice A0_1 l0_1.length c0_1]) (t := 31) ?hr ?_; (case hd => rfl); (case hg => rfl); (case hr => first | (go_simp; done) | (go_simp; rfl)); intro gb193 hg w4 hbox hb; have n0_ := Aside0.mk (below_step (by repeat (first | (with_reducible first | exact HB.out | apply below_alloc | apply pw_below_drewN | apply below_drew1) | exact HB.out)) hb); have n1_ := Aside0.mk (hbox); have n2_ := Aside0.mk ((by rw [hg]; exact (below_size (by repeat (first | (with_reducible first | exact HB.out | apply below_alloc | apply pw_below_drewN | apply below_drew1) | exact HB.out))) : w.heap.size ≤ gb193)); have n3_ := Aside0.mk ((by rw [hg]; exact (below_size (by repeat (first | (with_reducible first | exact HB.out | apply below_alloc | apply pw_below_drewN | apply below_drew1) | exact HB.out))) : w.heap.size ≤ gb193)); clear HB; have HB := n0_; have BK193 := n1_; have GW193 := n2_; have GE193 := n3_; clear n0_ n1_ n2_ n3_; clear hb hbox hg; have hcz5_0 : w4.cell? ⟨gb193, 0, none⟩ = some (.int .i64 a0_0) := (blk_cell BK193.out 0).trans rfl; have hcz5_1 : w4.cell? ⟨gb193, 1, none⟩ = some (.slice A0_1 l0_1.length c0_1) := (blk_cell BK193.out 1).trans rfl; have hfz5_0 := blk_frozen BK193.out 0; have hfz5_1 := blk_frozen BK193.out 1) | ((with_reducible refine gate_callee (f := 22) rfl ?_); refine goesL_ (some 8) rfl rfl Try.func22 (by kernel_rfl) rfl #[.agg #[.int .i64 a0_0, .slice A0_1 l0_1.length c0_1]] rfl (by (try simp only [List.map_toArray, List.map_cons, List.map_nil]); first | done | rfl | (simp only [List.length_drop, List.length_take]; rfl)) ?_; (with_reducible refine (words_Valid.calls a0_0 _ _ l0_1 true _ ?side1 ?side2 A2.out).mono ?_); (case side1 => repeat (first | exact (Kd.C_below HR0_1.out HB.out) | (with_reducible refine Kd.C_alloc ?_ _) | (with_reducible refine Kd.C_drewN ?_ _) | (with_reducible refine Kd.C_drew ?_))); (case side2 => exact HC0_1.out); rintro e w6 ⟨rfl, hb⟩; refine ⟨_, rfl, ?_⟩; have n0_ := Aside0.mk (blk_below (g := gb193) (o := .cells #[.int .i64 a0_0, .slice A0_1 l0_1.length c0_1] 31 (0, 0)) (by (with_reducible repeat (first | refine blk_drewN ?_ _ | refine blk_drew ?_ | refine blk_alloc ?_ _)); exact BK193.out) hb); have n1_ := Aside0.mk (below_step (by repeat (first | (with_reducible first | exact HB.out | apply below_alloc | apply pw_below_drewN | apply below_drew1 | refine below_set ?_ GE193.out) | exact HB.out)) hb); clear BK193; clear HB; have BK193 := n0_; have HB := n1_; clear n0_ n1_; (try clear hb); (try clear hb2); (try clear hk); (try clear hi); have hcz7_0 : w6.cell? ⟨gb193, 0, none⟩ = some (.int .i64 a0_0) := (blk_cell BK193.out 0).trans rfl; have hcz7_1 : w6.cell? ⟨gb193, 1, none⟩ = some (.slice A0_1 l0_1.length c0_1) := (blk_cell BK193.out 1).trans rfl; have hfz7_0 := blk_frozen BK193.out 0; have hfz7_1 := blk_frozen BK193.out 1))
    go_loopg [4, 13] k (fun kq v4 v13 w' => ∃ (x4_1 : Int) (x13_1 : Int), v4 = .int .i64 x4_1 ∧ v13 = .int .i64 x13_1 ∧ Aside0 (words_Ones.l0 kq x4_1 l0_1 (l0_1.length : Int) x13_1 = some (r1, r2)) ∧ Aside0 (kq ≤ k) ∧ Aside0 (w'.heap[gb193]? = some (.cells #[.int .i64 a0_0, (.slice A0_1 l0_1.length c0_1)] 31 (0, 0))) ∧ Aside0 (Below w.heap.size w w'))
    case atStart => exact ⟨(0), (0), (by first | rfl | (simp; done) | (simp [*]; done) | (simp [wrap64]; done)), (by first | rfl | (simp; done) | (simp [*]; done) | (simp [wrap64]; done)), H', ⟨Nat.le_refl _⟩, ⟨by (with_reducible repeat (first | refine blk_drewN ?_ _ | refine blk_drew ?_ | refine blk_alloc ?_ _)); exact BK193.out⟩, ⟨by repeat (first | (with_reducible first | exact HB.out | apply below_alloc | apply pw_below_drewN | apply below_drew1 | refine below_set ?_ GE193.out) | exact HB.out)⟩⟩
    case round =>
      clear H'
      try clear c2
      try clear p2
      try clear c3
      try clear c4
      try clear hcz5_0
      try clear hcz5_1
      try clear hcz7_0
      try clear hcz7_1
      try clear hfz5_0
      try clear hfz5_1
      try clear hfz7_0
      try clear hfz7_1
      obtain ⟨x4_1, x13_1, rfl, rfl, HA, HK1, BK193, HB⟩ := hrel
      cases gk with
      | zero => exact absurd HA.out (by simp [words_Ones.l0])
      | succ k1 =>
        have H := HA.out
        clear HA
        simp only [words_Ones.l0] at H
        by_cases c8 : x13_1 < (l0_1.length : Int)
        · rw [if_pos c8] at H
          have c8b0 : decide (x13_1 < (l0_1.length : Int)) = true := decide_eq_true c8
          clear c8
          by_cases c9 : 0 ≤ x13_1
          · rw [if_pos c9] at H
            have c9b0 : decide (0 ≤ x13_1) = true := decide_eq_true c9
            clear c9
            by_cases c10 : x13_1 < (l0_1.length : Int)
            · rw [if_pos c10] at H
              have c10b0 : decide (x13_1 < (l0_1.length : Int)) = true := decide_eq_true c10
              clear c10
              replace H := Option.bind_eq_some_iff.mp H
              obtain ⟨t196, A110, H⟩ := H
              replace H : (words_Ones.l0 k1 (wrap64 (x4_1 + t196)) l0_1 (l0_1.length : Int) (wrap64 (x13_1 + 1))) = some (r1, r2) := H
              have A11 := Aside0.mk A110
              clear A110
              have H' := Aside0.mk H
              clear H
              have p195 : 0 ≤ (x13_1 : Int) := of_decide_eq_true (by first | (with_reducible assumption) | assumption)
              have q195 : x13_1 < (l0_1.length : Int) := of_decide_eq_true (by first | (with_reducible assumption) | assumption)
              obtain ⟨ad195, e195, hx195_0⟩ := Kd.at_int HR0_1.out x13_1 p195 q195
              cases e195
              replace hx195_0 := (HB.out.cell (World.block_lt_of_cell? w _ hx195_0)).trans hx195_0
              replace p195 := eq_true p195
              replace q195 := eq_true q195
              go_wp2_with (first | ((with_reducible refine gate_callee (f := 57) rfl ?_); refine goesL_ (some 19) rfl rfl Try.func57 (by kernel_rfl) rfl #[.int .u64 (rd l0_1 x13_1)] rfl (by (try simp only [List.map_toArray, List.map_cons, List.map_nil]); first | done | rfl | (simp only [List.length_drop, List.length_take]; rfl)) ?_; (with_reducible refine (bits_OnesCount64.calls (rd l0_1 x13_1) t196 _ A11.out).mono ?_); rintro e w' ⟨rfl, ⟨nd, rfl⟩⟩; refine ⟨_, rfl, ?_⟩))
              go_roundg k1
              case measure => have := HK1.out; omega
              case rel => exact ⟨(wrap64 (x4_1 + t196)), (wrap64 (x13_1 + 1)), (by first | rfl | (simp; done) | (simp [*]; done) | (simp [wrap64]; done)), (by first | rfl | (simp; done) | (simp [*]; done) | (simp [wrap64]; done)), H', ⟨by have := HK1.out; omega⟩, ⟨by (with_reducible repeat (first | refine blk_drewN ?_ _ | refine blk_drew ?_ | refine blk_alloc ?_ _)); exact BK193.out⟩, ⟨by repeat (first | (with_reducible first | exact HB.out | apply below_alloc | apply pw_below_drewN | apply below_drew1 | refine below_set ?_ GE193.out) | exact HB.out)⟩⟩
            · rw [if_neg c10] at H
              exact absurd H (by simp)
          · rw [if_neg c9] at H
            exact absurd H (by simp)
        · rw [if_neg c8] at H
          have c8b0 : decide (x13_1 < (l0_1.length : Int)) = false := decide_eq_false c8
          clear c8
          simp only [Option.some.injEq, Prod.mk.injEq] at H
          obtain ⟨rfl, rfl⟩ := H
          go_wp2
          go_ret2
          exact ⟨by first | rfl | (simp [errW_none, errW_some] <;> rfl) | (simp [*, errW_none, errW_some] <;> rfl), by repeat (first | (with_reducible first | exact HB.out | apply below_alloc | apply pw_below_drewN | apply below_drew1 | refine below_set ?_ GE193.out) | exact HB.out)⟩
  · replace c3 := Bool.eq_false_iff.mpr c3
    subst c3
    have H1 : (some (0, 20)) = some (r1, r2) := by rw [if_neg (show ¬ (false = true) by decide)] at H; exact H
    clear H
    have H := H1
    clear H1
    simp only [Option.some.injEq, Prod.mk.injEq] at H
    obtain ⟨rfl, rfl⟩ := H
    go_enter Try.func46, Try.ntmps46
    go_wp2_with (first | ((with_reducible refine gate_dst (N := 1) rfl ?_); refine box_event ?hg (N := 1) ?hd (cs := #[.int .i64 a0_0, .slice A0_1 l0_1.length c0_1]) (t := 31) ?hr ?_; (case hd => rfl); (case hg => rfl); (case hr => first | (go_simp; done) | (go_simp; rfl)); intro gb193 hg w12 hbox hb; have n0_ := Aside0.mk (below_step (by repeat (first | (with_reducible first | exact HB.out | apply below_alloc | apply pw_below_drewN | apply below_drew1) | exact HB.out)) hb); have n1_ := Aside0.mk (hbox); have n2_ := Aside0.mk ((by rw [hg]; exact (below_size (by repeat (first | (with_reducible first | exact HB.out | apply below_alloc | apply pw_below_drewN | apply below_drew1) | exact HB.out))) : w.heap.size ≤ gb193)); have n3_ := Aside0.mk ((by rw [hg]; exact (below_size (by repeat (first | (with_reducible first | exact HB.out | apply below_alloc | apply pw_below_drewN | apply below_drew1) | exact HB.out))) : w.heap.size ≤ gb193)); clear HB; have HB := n0_; have BK193 := n1_; have GW193 := n2_; have GE193 := n3_; clear n0_ n1_ n2_ n3_; clear hb hbox hg; have hcz13_0 : w12.cell? ⟨gb193, 0, none⟩ = some (.int .i64 a0_0) := (blk_cell BK193.out 0).trans rfl; have hcz13_1 : w12.cell? ⟨gb193, 1, none⟩ = some (.slice A0_1 l0_1.length c0_1) := (blk_cell BK193.out 1).trans rfl; have hfz13_0 := blk_frozen BK193.out 0; have hfz13_1 := blk_frozen BK193.out 1) | ((with_reducible refine gate_callee (f := 22) rfl ?_); refine goesL_ (some 8) rfl rfl Try.func22 (by kernel_rfl) rfl #[.agg #[.int .i64 a0_0, .slice A0_1 l0_1.length c0_1]] rfl (by (try simp only [List.map_toArray, List.map_cons, List.map_nil]); first | done | rfl | (simp only [List.length_drop, List.length_take]; rfl)) ?_; (with_reducible refine (words_Valid.calls a0_0 _ _ l0_1 false _ ?side1 ?side2 A2.out).mono ?_); (case side1 => repeat (first | exact (Kd.C_below HR0_1.out HB.out) | (with_reducible refine Kd.C_alloc ?_ _) | (with_reducible refine Kd.C_drewN ?_ _) | (with_reducible refine Kd.C_drew ?_))); (case side2 => exact HC0_1.out); rintro e w14 ⟨rfl, hb⟩; refine ⟨_, rfl, ?_⟩; have n0_ := Aside0.mk (blk_below (g := gb193) (o := .cells #[.int .i64 a0_0, .slice A0_1 l0_1.length c0_1] 31 (0, 0)) (by (with_reducible repeat (first | refine blk_drewN ?_ _ | refine blk_drew ?_ | refine blk_alloc ?_ _)); exact BK193.out) hb); have n1_ := Aside0.mk (below_step (by repeat (first | (with_reducible first | exact HB.out | apply below_alloc | apply pw_below_drewN | apply below_drew1 | refine below_set ?_ GE193.out) | exact HB.out)) hb); clear BK193; clear HB; have BK193 := n0_; have HB := n1_; clear n0_ n1_; (try clear hb); (try clear hb2); (try clear hk); (try clear hi)))
    go_ret2
    exact ⟨by first | rfl | (simp [errW_none, errW_some] <;> rfl) | (simp [*, errW_none, errW_some] <;> rfl), by repeat (first | (with_reducible first | exact HB.out | apply below_alloc | apply pw_below_drewN | apply below_drew1 | refine below_set ?_ GE193.out) | exact HB.out)⟩
def words_Half.f (a0 : Int) (a1 : Int) : Option (Int × Int) := some (Go.bits .xor .u64 a0 a1, Go.bits .and .u64 a0 a1)
set_option maxHeartbeats 8000000 in
set_option maxRecDepth 100000 in
theorem words_Half.calls (a0 : Int) (a1 : Int) (r1 : Int) (r2 : Int) (w : World) (h : words_Half.f a0 a1 = some (r1, r2)) :
    Calls Try.prog 14 #[.int .u64 a0, .int .u64 a1] w fun e w' => e = .returned (.tuple #[.int .u64 r1, .int .u64 r2]) ∧ Drawn0 w w' := by
  have H : (some (Go.bits .xor .u64 a0 a1, Go.bits .and .u64 a0 a1)) = some (r1, r2) := h
  clear h
  simp only [Option.some.injEq, Prod.mk.injEq] at H
  obtain ⟨rfl, rfl⟩ := H
  go_enter Try.func14, Try.ntmps14
  go_wp2
  go_ret2
  exact ⟨by first | rfl | (simp; done) | (simp [*]; done), by repeat (first | exact Drawn0.refl _ | apply Drawn0.step)⟩
end Go.Proofs.Ytlghmadoogblcaa.PW
end
section
namespace Go.Proofs.Ytlghmadoogblcaa.PW
open Go.RowKit Go.Proofs.YtlghmadoogblcaaW.PrintWords Go.Proofs.YtlghmadoogblcaaW.PrintLast Go.Proofs.YtlghmadoogblcaaW.PrintMore
attribute [local go_sem] max2_int min2_int max_two min_two max_three min_three max_four min_four   -- for this text's walks alone
set_option linter.unusedVariables false
set_option linter.unusedSimpArgs false
def vivariumlaw02_alive.f (k : Nat)  : Option (Bool) := (words_Of.f k (([true, false, true] : List Bool))).bind fun bt204 => ((words_Up.f k bt204.1 bt204.2.1 true).bind fun bt210 => ((words_Ones.f k bt210.1 bt210.2.1).bind fun bt217 => ((words_Half.f 12 10).bind fun bt219 => (if bt204.2.2 = 0 then (if bt210.2.2.2 = 0 then (if bt217.2 = 0 then (if bt204.1 = 3 then (if (bt204.2.1.length : Int) = 1 then (if 0 < (bt204.2.1.length : Int) then (if (rd bt204.2.1 0) = 5 then (if bt210.2.2.1 = true then (if bt217.1 = 2 then ((words_Get.f bt210.1 bt210.2.1 1).bind fun t222 => (if t222 = true then ((words_Get.f bt210.1 bt210.2.1 2).bind fun t223 => (if t223 = true then (some false) else (if bt219.1 = 6 then (some (bt219.2 == 8)) else (some false)))) else (some false))) else (some false)) else (some false)) else (some false)) else (none)) else (some false)) else (some false)) else (some false)) else (some false)) else (some false)))))
theorem vivariumlaw02_alive.mono : ∀ k, LeO (vivariumlaw02_alive.f k ) (vivariumlaw02_alive.f (k + 1) ) := by
  intro  k
  unfold vivariumlaw02_alive.f
  repeat' first
      | (with_reducible exact words_Of.mono _ _)
      | (with_reducible exact words_Ones.mono _ _ _)
      | (with_reducible exact words_Up.mono _ _ _ _)
      | (with_reducible exact LeO.refl _)
      | (with_reducible exact LeO.none _)
      | (with_reducible refine LeO.ite ?_ ?_)
      | (with_reducible refine LeO.bind ?_ (fun _ => ?_))
      | exact words_Of.mono _ _
      | exact words_Ones.mono _ _ _
      | exact words_Up.mono _ _ _ _
      | exact LeO.none _
      | refine LeO.ite ?_ ?_
      | refine LeO.bind ?_ (fun _ => ?_)
set_option maxHeartbeats 8000000 in
set_option maxRecDepth 100000 in
theorem vivariumlaw02_alive.calls (k : Nat)  (r : Bool) (w : World) (hrt_ : r = true) (h : vivariumlaw02_alive.f k  = some r) :
    Calls Try.prog 13 #[] w fun e w' => e = .returned (.bool r) ∧ Below w.heap.size w w' := by
  have hu31 := Try.underlying31
  have HB := Aside0.mk (Below.refl w.heap.size w)
  have H : ((words_Of.f k (([true, false, true] : List Bool))).bind fun bt204 => ((words_Up.f k bt204.1 bt204.2.1 true).bind fun bt210 => ((words_Ones.f k bt210.1 bt210.2.1).bind fun bt217 => ((words_Half.f 12 10).bind fun bt219 => (if bt204.2.2 = 0 then (if bt210.2.2.2 = 0 then (if bt217.2 = 0 then (if bt204.1 = 3 then (if (bt204.2.1.length : Int) = 1 then (if 0 < (bt204.2.1.length : Int) then (if (rd bt204.2.1 0) = 5 then (if bt210.2.2.1 = true then (if bt217.1 = 2 then ((words_Get.f bt210.1 bt210.2.1 1).bind fun t222 => (if t222 = true then ((words_Get.f bt210.1 bt210.2.1 2).bind fun t223 => (if t223 = true then (some false) else (if bt219.1 = 6 then (some (bt219.2 == 8)) else (some false)))) else (some false))) else (some false)) else (some false)) else (some false)) else (none)) else (some false)) else (some false)) else (some false)) else (some false)) else (some false)))))) = some r := h
  clear h
  obtain ⟨y201, hy201⟩ : ∃ y_ : List Bool, y_ = (([true, false, true] : List Bool)) := ⟨_, rfl⟩
  replace H : ((words_Of.f k y201).bind fun bt204 => ((words_Up.f k bt204.1 bt204.2.1 true).bind fun bt210 => ((words_Ones.f k bt210.1 bt210.2.1).bind fun bt217 => ((words_Half.f 12 10).bind fun bt219 => (if bt204.2.2 = 0 then (if bt210.2.2.2 = 0 then (if bt217.2 = 0 then (if bt204.1 = 3 then (if (bt204.2.1.length : Int) = 1 then (if 0 < (bt204.2.1.length : Int) then (if (rd bt204.2.1 0) = 5 then (if bt210.2.2.1 = true then (if bt217.1 = 2 then ((words_Get.f bt210.1 bt210.2.1 1).bind fun t222 => (if t222 = true then ((words_Get.f bt210.1 bt210.2.1 2).bind fun t223 => (if t223 = true then (some false) else (if bt219.1 = 6 then (some (bt219.2 == 8)) else (some false)))) else (some false))) else (some false)) else (some false)) else (some false)) else (none)) else (some false)) else (some false)) else (some false)) else (some false)) else (some false)))))) = some r := by first | (rw [hy201]; with_reducible exact H) | (have H2_ := (Option.bind_some _ _).symm.trans H; rw [hy201]; with_reducible exact H2_) | (have H2_ := (Option.bind_some _ _).symm.trans H; with_reducible exact H2_) | with_reducible exact H | (rw [hy201]; exact H) | exact H
  have Ny201 := Aside0.mk hy201
  clear hy201
  replace H := Option.bind_eq_some_iff.mp H
  obtain ⟨⟨t204, t205, t208⟩, A10, H⟩ := H
  replace H : ((words_Up.f k t204 t205 true).bind fun bt210 => ((words_Ones.f k bt210.1 bt210.2.1).bind fun bt217 => ((words_Half.f 12 10).bind fun bt219 => (if t208 = 0 then (if bt210.2.2.2 = 0 then (if bt217.2 = 0 then (if t204 = 3 then (if (t205.length : Int) = 1 then (if 0 < (t205.length : Int) then (if (rd t205 0) = 5 then (if bt210.2.2.1 = true then (if bt217.1 = 2 then ((words_Get.f bt210.1 bt210.2.1 1).bind fun t222 => (if t222 = true then ((words_Get.f bt210.1 bt210.2.1 2).bind fun t223 => (if t223 = true then (some false) else (if bt219.1 = 6 then (some (bt219.2 == 8)) else (some false)))) else (some false))) else (some false)) else (some false)) else (some false)) else (none)) else (some false)) else (some false)) else (some false)) else (some false)) else (some false))))) = some r := H
  have A1 := Aside0.mk A10
  clear A10
  replace H := Option.bind_eq_some_iff.mp H
  obtain ⟨⟨t210, t211, t214, t215⟩, A20, H⟩ := H
  replace H : ((words_Ones.f k t210 t211).bind fun bt217 => ((words_Half.f 12 10).bind fun bt219 => (if t208 = 0 then (if t215 = 0 then (if bt217.2 = 0 then (if t204 = 3 then (if (t205.length : Int) = 1 then (if 0 < (t205.length : Int) then (if (rd t205 0) = 5 then (if t214 = true then (if bt217.1 = 2 then ((words_Get.f t210 t211 1).bind fun t222 => (if t222 = true then ((words_Get.f t210 t211 2).bind fun t223 => (if t223 = true then (some false) else (if bt219.1 = 6 then (some (bt219.2 == 8)) else (some false)))) else (some false))) else (some false)) else (some false)) else (some false)) else (none)) else (some false)) else (some false)) else (some false)) else (some false)) else (some false)))) = some r := H
  have A2 := Aside0.mk A20
  clear A20
  replace H := Option.bind_eq_some_iff.mp H
  obtain ⟨⟨t217, t218⟩, A30, H⟩ := H
  replace H : ((words_Half.f 12 10).bind fun bt219 => (if t208 = 0 then (if t215 = 0 then (if t218 = 0 then (if t204 = 3 then (if (t205.length : Int) = 1 then (if 0 < (t205.length : Int) then (if (rd t205 0) = 5 then (if t214 = true then (if t217 = 2 then ((words_Get.f t210 t211 1).bind fun t222 => (if t222 = true then ((words_Get.f t210 t211 2).bind fun t223 => (if t223 = true then (some false) else (if bt219.1 = 6 then (some (bt219.2 == 8)) else (some false)))) else (some false))) else (some false)) else (some false)) else (some false)) else (none)) else (some false)) else (some false)) else (some false)) else (some false)) else (some false))) = some r := H
  have A3 := Aside0.mk A30
  clear A30
  replace H := Option.bind_eq_some_iff.mp H
  obtain ⟨⟨t219, t220⟩, A40, H⟩ := H
  replace H : (if t208 = 0 then (if t215 = 0 then (if t218 = 0 then (if t204 = 3 then (if (t205.length : Int) = 1 then (if 0 < (t205.length : Int) then (if (rd t205 0) = 5 then (if t214 = true then (if t217 = 2 then ((words_Get.f t210 t211 1).bind fun t222 => (if t222 = true then ((words_Get.f t210 t211 2).bind fun t223 => (if t223 = true then (some false) else (if t219 = 6 then (some (t220 == 8)) else (some false)))) else (some false))) else (some false)) else (some false)) else (some false)) else (none)) else (some false)) else (some false)) else (some false)) else (some false)) else (some false)) = some r := H
  have A4 := Aside0.mk A40
  clear A40
  by_cases c5 : t208 = 0
  · rw [if_pos c5] at H
    have c5b0 : (t208 == 0) = true := beq_iff_eq.mpr c5
    have c5b1 : (t208 != 0) = false := bne_eq_false_iff_eq.mpr c5
    clear c5
    by_cases c6 : t215 = 0
    · rw [if_pos c6] at H
      have c6b0 : (t215 == 0) = true := beq_iff_eq.mpr c6
      have c6b1 : (t215 != 0) = false := bne_eq_false_iff_eq.mpr c6
      clear c6
      by_cases c7 : t218 = 0
      · rw [if_pos c7] at H
        have c7b0 : (t218 == 0) = true := beq_iff_eq.mpr c7
        have c7b1 : (t218 != 0) = false := bne_eq_false_iff_eq.mpr c7
        clear c7
        by_cases c8 : t204 = 3
        · rw [if_pos c8] at H
          have c8b0 : (t204 == 3) = true := beq_iff_eq.mpr c8
          have c8b1 : (t204 != 3) = false := bne_eq_false_iff_eq.mpr c8
          clear c8
          by_cases c9 : (t205.length : Int) = 1
          · rw [if_pos c9] at H
            have c9b0 : ((t205.length : Int) == 1) = true := beq_iff_eq.mpr c9
            have c9b1 : ((t205.length : Int) != 1) = false := bne_eq_false_iff_eq.mpr c9
            clear c9
            by_cases c10 : 0 < (t205.length : Int)
            · rw [if_pos c10] at H
              have c10b0 : decide (0 < (t205.length : Int)) = true := decide_eq_true c10
              have c10b1 : decide (0 < t205.length) = true := decide_eq_true (by omega)
              clear c10
              by_cases c11 : (rd t205 0) = 5
              · rw [if_pos c11] at H
                have c11b0 : ((rd t205 0) == 5) = true := beq_iff_eq.mpr c11
                have c11b1 : ((rd t205 0) != 5) = false := bne_eq_false_iff_eq.mpr c11
                clear c11
                by_cases c12 : t214 = true
                · subst c12
                  have H1 : (if t217 = 2 then ((words_Get.f t210 t211 1).bind fun t222 => (if t222 = true then ((words_Get.f t210 t211 2).bind fun t223 => (if t223 = true then (some false) else (if t219 = 6 then (some (t220 == 8)) else (some false)))) else (some false))) else (some false)) = some r := by rw [if_pos rfl] at H; exact H
                  clear H
                  have H := H1
                  clear H1
                  by_cases c13 : t217 = 2
                  · rw [if_pos c13] at H
                    have c13b0 : (t217 == 2) = true := beq_iff_eq.mpr c13
                    have c13b1 : (t217 != 2) = false := bne_eq_false_iff_eq.mpr c13
                    clear c13
                    replace H := Option.bind_eq_some_iff.mp H
                    obtain ⟨t222, A140, H⟩ := H
                    replace H : (if t222 = true then ((words_Get.f t210 t211 2).bind fun t223 => (if t223 = true then (some false) else (if t219 = 6 then (some (t220 == 8)) else (some false)))) else (some false)) = some r := H
                    have A14 := Aside0.mk A140
                    clear A140
                    by_cases c15 : t222 = true
                    · subst c15
                      have H1 : ((words_Get.f t210 t211 2).bind fun t223 => (if t223 = true then (some false) else (if t219 = 6 then (some (t220 == 8)) else (some false)))) = some r := by rw [if_pos rfl] at H; exact H
                      clear H
                      have H := H1
                      clear H1
                      replace H := Option.bind_eq_some_iff.mp H
                      obtain ⟨t223, A160, H⟩ := H
                      replace H : (if t223 = true then (some false) else (if t219 = 6 then (some (t220 == 8)) else (some false))) = some r := H
                      have A16 := Aside0.mk A160
                      clear A160
                      by_cases c17 : t223 = true
                      · subst c17
                        have H1 : (some false) = some r := by rw [if_pos rfl] at H; exact H
                        exact absurd (Option.some.inj H1) (by rw [hrt_]; decide)
                      · replace c17 := Bool.eq_false_iff.mpr c17
                        subst c17
                        have H1 : (if t219 = 6 then (some (t220 == 8)) else (some false)) = some r := by rw [if_neg (show ¬ (false = true) by decide)] at H; exact H
                        clear H
                        have H := H1
                        clear H1
                        by_cases c36 : t219 = 6
                        · rw [if_pos c36] at H
                          have c36b0 : (t219 == 6) = true := beq_iff_eq.mpr c36
                          have c36b1 : (t219 != 6) = false := bne_eq_false_iff_eq.mpr c36
                          clear c36
                          obtain rfl := Option.some.inj H
                          go_enter Try.func13, Try.ntmps13
                          go_wp2_with (first | ((with_reducible refine gate_dst (N := 11) rfl ?_); (try (refine gate_guard (by rfl) ?_; dsimp only)); refine Kd.R_lit Kd.bool _ 4 ?hg (N := 11) ?hd (xs := ([true, false, true] : List Bool)) (inner := [.bool true, .bool false, .bool true]) (ok := fun _ => True) (okp := fun _ => True) ?hr ?hp (fun _ hk => hk) trivial (Below.refl _ _) (Nat.le_refl _) (by simp) ?_; (case hd => rfl); (case hg => rfl); (case hr => first | (go_simp; done) | (go_simp; rfl)); (case hp => exact (Reps.one (show Kd.M Kd.bool _ _ _ true [.bool true] from rfl) (Reps.one (show Kd.M Kd.bool _ _ _ false [.bool false] from rfl) (Reps.one (show Kd.M Kd.bool _ _ _ true [.bool true] from rfl) (Reps.none _ _))))); intro v202 w37 ho38 hb hg_ hnew_; clear hg_ hnew_; (first | rw [← Ny201.out] at ho38 | (simp only [Int.reduceToNat] at ho38; rw [← Ny201.out] at ho38)); have n0_ := Aside0.mk (Kd.R_lower ho38 (below_size (by repeat (first | (with_reducible first | exact HB.out | apply below_alloc | apply pw_below_drewN | apply below_drew1) | exact HB.out)))); have n1_ := Aside0.mk (below_step (by repeat (first | (with_reducible first | exact HB.out | apply below_alloc | apply pw_below_drewN | apply below_drew1) | exact HB.out)) hb); clear HB; have HO203 := n0_; have HB := n1_; clear n0_ n1_; clear hb ho38; obtain ⟨Ao39, co39, eo39⟩ := Kd.R_slice HO203.out; subst eo39) | ((with_reducible refine gate_callee (f := 18) rfl ?_); refine goesL_ (some 12) rfl rfl Try.func18 (by kernel_rfl) rfl #[.slice Ao39 y201.length co39] rfl (by (try simp only [List.map_toArray, List.map_cons, List.map_nil]); first | done | rfl | (simp only [List.length_drop, List.length_take]; rfl)) ?_; (with_reducible refine (words_Of.calls k _ _ y201 t204 t205 t208 _ ?side1 ?side2 A1.out).mono ?_); (case side1 => repeat (first | exact (Kd.R_reads' HO203.out).2.2 | (with_reducible refine Kd.C_alloc ?_ _) | (with_reducible refine Kd.C_drewN ?_ _) | (with_reducible refine Kd.C_drew ?_))); (case side2 => exact (Kd.R_reads' HO203.out).2.1); rintro e w40 ⟨v206, rfl, ho0, hb⟩; refine ⟨_, rfl, ?_⟩; have n0_ := Aside0.mk (Kd.R_below (by (with_reducible repeat (first | apply Kd.R_alloc | apply Kd.R_drewN | apply Kd.R_drew)); exact HO203.out) hb); have n1_ := Aside0.mk (Kd.R_lower ho0 (below_size (by repeat (first | (with_reducible first | exact HB.out | apply below_alloc | apply pw_below_drewN | apply below_drew1) | exact HB.out)))); have n2_ := Aside0.mk (below_step (by repeat (first | (with_reducible first | exact HB.out | apply below_alloc | apply pw_below_drewN | apply below_drew1) | exact HB.out)) hb); clear HO203; clear HB; have HO203 := n0_; have HO207 := n1_; have HB := n2_; clear n0_ n1_ n2_; (try clear hb); (try clear hb2); (try clear hk); (try clear hi); (try clear ho0)) | ((with_reducible refine gate_dst (N := 1) rfl ?_); (try (refine gate_guard (by rfl) ?_; dsimp only)); refine box_event ?hg (N := 1) ?hd (cs := #[.int .i64 0, .slice none 0 0]) (t := 31) ?hr ?_; (case hd => rfl); (case hg => rfl); (case hr => first | (go_simp; done) | (go_simp; rfl)); intro gb209 hg w41 hbox hb; have n0_ := Aside0.mk (Kd.R_below (by (with_reducible repeat (first | apply Kd.R_alloc | apply Kd.R_drewN | apply Kd.R_drew)); exact HO203.out) hb); have n1_ := Aside0.mk (Kd.R_below (by (with_reducible repeat (first | apply Kd.R_alloc | apply Kd.R_drewN | apply Kd.R_drew)); exact HO207.out) hb); have n2_ := Aside0.mk (below_step (by repeat (first | (with_reducible first | exact HB.out | apply below_alloc | apply pw_below_drewN | apply below_drew1) | exact HB.out)) hb); have n3_ := Aside0.mk (hbox); have n4_ := Aside0.mk ((by rw [hg]; exact (below_size (by repeat (first | (with_reducible first | exact HB.out | apply below_alloc | apply pw_below_drewN | apply below_drew1) | exact HB.out))) : w.heap.size ≤ gb209)); have n5_ := Aside0.mk ((by rw [hg]; exact (below_size (by repeat (first | (with_reducible first | exact HB.out | apply below_alloc | apply pw_below_drewN | apply below_drew1) | exact HB.out))) : w.heap.size ≤ gb209)); clear HO203; clear HO207; clear HB; have HO203 := n0_; have HO207 := n1_; have HB := n2_; have BK209 := n3_; have GW209 := n4_; have GE209 := n5_; clear n0_ n1_ n2_ n3_ n4_ n5_; clear hb hbox hg; have hcz42_0 : w41.cell? ⟨gb209, 0, none⟩ = some (.int .i64 0) := (blk_cell BK209.out 0).trans rfl; have hcz42_1 : w41.cell? ⟨gb209, 1, none⟩ = some (.slice none 0 0) := (blk_cell BK209.out 1).trans rfl; have hfz42_0 := blk_frozen BK209.out 0; have hfz42_1 := blk_frozen BK209.out 1; obtain ⟨Ao43, co43, eo43⟩ := Kd.R_slice HO207.out; subst eo43) | ((with_reducible refine gate_callee (f := 45) rfl ?_); refine goesL_ (some 17) rfl rfl Try.func45 (by kernel_rfl) rfl #[.agg #[.int .i64 t204, .slice Ao43 t205.length co43], .bool true] rfl (by (try simp only [List.map_toArray, List.map_cons, List.map_nil]); first | done | rfl | (simp only [List.length_drop, List.length_take]; rfl)) ?_; (with_reducible refine (words_Up.calls k t204 _ _ t205 true t210 t211 true t215 _ ?side1 ?side2 A2.out).mono ?_); (case side1 => refine (Kd.R_reads' (e := 22) (base := w.heap.size) (ok := fun k_ => True) (n := t205.length) (c := co43) ?_).2.2; exact (by (with_reducible repeat (first | apply Kd.R_alloc | apply Kd.R_drewN | apply Kd.R_drew)); exact (Kd.R_mono (Kd.R_far (p := ⟨gb209, 1, none⟩) (Kd.R_far (p := ⟨gb209, 0, none⟩) (Kd.R_types HO207.out BK209.out (by decide)) (fun _ hk => hk.2) (.int .i64 t204)) (fun _ hk => hk.2) (.slice Ao43 t205.length co43)) (fun _ h_ => h_.1)))); (case side2 => exact (Kd.R_reads' HO207.out).2.1); rintro e w44 ⟨v212, rfl, ho0, hb⟩; refine ⟨_, rfl, ?_⟩; have n0_ := Aside0.mk (Kd.R_below (by (with_reducible repeat (first | apply Kd.R_alloc | apply Kd.R_drewN | apply Kd.R_drew)); exact (Kd.R_mono (Kd.R_far (p := ⟨gb209, 1, none⟩) (Kd.R_far (p := ⟨gb209, 0, none⟩) (Kd.R_types HO203.out BK209.out (by decide)) (fun _ hk => hk.2) (.int .i64 t204)) (fun _ hk => hk.2) (.slice Ao43 t205.length co43)) (fun _ h_ => h_.1))) hb); have n1_ := Aside0.mk (Kd.R_elder' (by (with_reducible repeat (first | apply Kd.R_alloc | apply Kd.R_drewN | apply Kd.R_drew)); exact (Kd.R_mono (Kd.R_far (p := ⟨gb209, 1, none⟩) (Kd.R_far (p := ⟨gb209, 0, none⟩) (Kd.R_types HO207.out BK209.out (by decide)) (fun _ hk => hk.2) (.int .i64 t204)) (fun _ hk => hk.2) (.slice Ao43 t205.length co43)) (fun _ h_ => h_.1))) (Kd.R_base ho0) hb); have n2_ := Aside0.mk (Kd.R_lower (Kd.R_new' ho0 (Kd.R_lt (by (with_reducible repeat (first | apply Kd.R_alloc | apply Kd.R_drewN | apply Kd.R_drew)); exact (Kd.R_mono (Kd.R_far (p := ⟨gb209, 1, none⟩) (Kd.R_far (p := ⟨gb209, 0, none⟩) (Kd.R_types HO207.out BK209.out (by decide)) (fun _ hk => hk.2) (.int .i64 t204)) (fun _ hk => hk.2) (.slice Ao43 t205.length co43)) (fun _ h_ => h_.1))))) (below_size (by repeat (first | (with_reducible first | exact HB.out | apply below_alloc | apply pw_below_drewN | apply below_drew1 | refine below_set ?_ GE209.out) | exact HB.out)))); have n3_ := Aside0.mk (blk_below (g := gb209) (o := .cells #[.int .i64 t204, .slice Ao43 t205.length co43] 31 (0, 0)) (by (with_reducible repeat (first | refine blk_drewN ?_ _ | refine blk_drew ?_ | refine blk_alloc ?_ _)); refine blk_put (cs := #[.int .i64 t204, .slice none 0 0]) ?_ 1 _ rfl; (with_reducible repeat (first | refine blk_drewN ?_ _ | refine blk_drew ?_ | refine blk_alloc ?_ _)); refine blk_put (cs := #[.int .i64 0, .slice none 0 0]) ?_ 0 _ rfl; (with_reducible repeat (first | refine blk_drewN ?_ _ | refine blk_drew ?_ | refine blk_alloc ?_ _)); exact BK209.out) hb); have n4_ := Aside0.mk (below_step (by repeat (first | (with_reducible first | exact HB.out | apply below_alloc | apply pw_below_drewN | apply below_drew1 | refine below_set ?_ GE209.out) | exact HB.out)) hb); clear HO203; clear HO207; clear BK209; clear HB; have HO203 := n0_; have HO207 := n1_; have HO213 := n2_; have BK209 := n3_; have HB := n4_; clear n0_ n1_ n2_ n3_ n4_; (try clear hb); (try clear hb2); (try clear hk); (try clear hi); (try clear ho0)) | ((with_reducible refine gate_dst (N := 3) rfl ?_); (try (refine gate_guard (by rfl) ?_; dsimp only)); refine box_event ?hg (N := 3) ?hd (cs := #[.int .i64 0, .slice none 0 0]) (t := 31) ?hr ?_; (case hd => rfl); (case hg => rfl); (case hr => first | (go_simp; done) | (go_simp; rfl)); intro gb216 hg w45 hbox hb; have n0_ := Aside0.mk (Kd.R_below (by (with_reducible repeat (first | apply Kd.R_alloc | apply Kd.R_drewN | apply Kd.R_drew)); exact HO203.out) hb); have n1_ := Aside0.mk (Kd.R_below (by (with_reducible repeat (first | apply Kd.R_alloc | apply Kd.R_drewN | apply Kd.R_drew)); exact HO207.out) hb); have n2_ := Aside0.mk (Kd.R_below (by (with_reducible repeat (first | apply Kd.R_alloc | apply Kd.R_drewN | apply Kd.R_drew)); exact HO213.out) hb); have n3_ := Aside0.mk (blk_below (g := gb209) (o := .cells #[.int .i64 t204, .slice Ao43 t205.length co43] 31 (0, 0)) (by (with_reducible repeat (first | refine blk_drewN ?_ _ | refine blk_drew ?_ | refine blk_alloc ?_ _)); exact BK209.out) hb); have n4_ := Aside0.mk (below_step (by repeat (first | (with_reducible first | exact HB.out | apply below_alloc | apply pw_below_drewN | apply below_drew1 | refine below_set ?_ GE209.out) | exact HB.out)) hb); have n5_ := Aside0.mk (hbox); have n6_ := Aside0.mk ((by rw [hg]; exact (below_size (by repeat (first | (with_reducible first | exact HB.out | apply below_alloc | apply pw_below_drewN | apply below_drew1 | refine below_set ?_ GE209.out) | exact HB.out))) : w.heap.size ≤ gb216)); have n7_ := Aside0.mk ((by rw [hg]; exact (below_size (by repeat (first | (with_reducible first | exact HB.out | apply below_alloc | apply pw_below_drewN | apply below_drew1 | refine below_set ?_ GE209.out) | exact HB.out))) : w.heap.size ≤ gb216)); have n8_ := Aside0.mk ((by rw [hg]; exact Nat.ne_of_lt (blk_lt (g := gb209) (o := .cells #[.int .i64 t204, .slice Ao43 t205.length co43] 31 (0, 0)) (by (with_reducible repeat (first | refine blk_drewN ?_ _ | refine blk_drew ?_ | refine blk_alloc ?_ _)); exact BK209.out)) : gb209 ≠ gb216)); have n9_ := Aside0.mk ((by rw [hg]; exact Nat.ne_of_gt (blk_lt (g := gb209) (o := .cells #[.int .i64 t204, .slice Ao43 t205.length co43] 31 (0, 0)) (by (with_reducible repeat (first | refine blk_drewN ?_ _ | refine blk_drew ?_ | refine blk_alloc ?_ _)); exact BK209.out)) : gb216 ≠ gb209)); clear HO203; clear HO207; clear HO213; clear BK209; clear HB; have HO203 := n0_; have HO207 := n1_; have HO213 := n2_; have BK209 := n3_; have HB := n4_; have BK216 := n5_; have GW216 := n6_; have GE216 := n7_; have NB209_216 := n8_; have NB216_209 := n9_; clear n0_ n1_ n2_ n3_ n4_ n5_ n6_ n7_ n8_ n9_; clear hb hbox hg; have hnb46 := NB216_209.out; have hnc46 := NB209_216.out; have hcz47_0 : w45.cell? ⟨gb216, 0, none⟩ = some (.int .i64 0) := (blk_cell BK216.out 0).trans rfl; have hcz47_1 : w45.cell? ⟨gb216, 1, none⟩ = some (.slice none 0 0) := (blk_cell BK216.out 1).trans rfl; have hfz47_0 := blk_frozen BK216.out 0; have hfz47_1 := blk_frozen BK216.out 1; obtain ⟨Ao48, co48, eo48⟩ := Kd.R_slice HO213.out; subst eo48) | ((with_reducible refine gate_callee (f := 46) rfl ?_); refine goesL_ (some 23) rfl rfl Try.func46 (by kernel_rfl) rfl #[.agg #[.int .i64 t210, .slice Ao48 t211.length co48]] rfl (by (try simp only [List.map_toArray, List.map_cons, List.map_nil]); first | done | rfl | (simp only [List.length_drop, List.length_take]; rfl)) ?_; (with_reducible refine (words_Ones.calls k t210 _ _ t211 t217 t218 _ ?side1 ?side2 A3.out).mono ?_); (case side1 => refine (Kd.R_reads' (e := 22) (base := w.heap.size) (ok := fun k_ => (True ∧ some k_ ≠ (.slice Ao43 t205.length co43 : Value).ownBlock)) (n := t211.length) (c := co48) ?_).2.2; exact (by (with_reducible repeat (first | apply Kd.R_alloc | apply Kd.R_drewN | apply Kd.R_drew)); exact (Kd.R_mono (Kd.R_far (p := ⟨gb216, 1, none⟩) (Kd.R_far (p := ⟨gb216, 0, none⟩) (Kd.R_types HO213.out BK216.out (by decide)) (fun _ hk => hk.2) (.int .i64 t210)) (fun _ hk => hk.2) (.slice Ao48 t211.length co48)) (fun _ h_ => h_.1)))); (case side2 => exact (Kd.R_reads' HO213.out).2.1); rintro e w49 ⟨rfl, hb⟩; refine ⟨_, rfl, ?_⟩; have n0_ := Aside0.mk (Kd.R_below (by (with_reducible repeat (first | apply Kd.R_alloc | apply Kd.R_drewN | apply Kd.R_drew)); exact (Kd.R_mono (Kd.R_far (p := ⟨gb216, 1, none⟩) (Kd.R_far (p := ⟨gb216, 0, none⟩) (Kd.R_types HO203.out BK216.out (by decide)) (fun _ hk => hk.2) (.int .i64 t210)) (fun _ hk => hk.2) (.slice Ao48 t211.length co48)) (fun _ h_ => h_.1))) hb); have n1_ := Aside0.mk (Kd.R_below (by (with_reducible repeat (first | apply Kd.R_alloc | apply Kd.R_drewN | apply Kd.R_drew)); exact (Kd.R_mono (Kd.R_far (p := ⟨gb216, 1, none⟩) (Kd.R_far (p := ⟨gb216, 0, none⟩) (Kd.R_types HO207.out BK216.out (by decide)) (fun _ hk => hk.2) (.int .i64 t210)) (fun _ hk => hk.2) (.slice Ao48 t211.length co48)) (fun _ h_ => h_.1))) hb); have n2_ := Aside0.mk (Kd.R_below (by (with_reducible repeat (first | apply Kd.R_alloc | apply Kd.R_drewN | apply Kd.R_drew)); exact (Kd.R_mono (Kd.R_far (p := ⟨gb216, 1, none⟩) (Kd.R_far (p := ⟨gb216, 0, none⟩) (Kd.R_types HO213.out BK216.out (by decide)) (fun _ hk => hk.2) (.int .i64 t210)) (fun _ hk => hk.2) (.slice Ao48 t211.length co48)) (fun _ h_ => h_.1))) hb); have n3_ := Aside0.mk (blk_below (g := gb209) (o := .cells #[.int .i64 t204, .slice Ao43 t205.length co43] 31 (0, 0)) (by (with_reducible repeat (first | refine blk_drewN ?_ _ | refine blk_drew ?_ | refine blk_alloc ?_ _)); refine blk_far ?_ NB209_216.out _; (with_reducible repeat (first | refine blk_drewN ?_ _ | refine blk_drew ?_ | refine blk_alloc ?_ _)); refine blk_far ?_ NB209_216.out _; (with_reducible repeat (first | refine blk_drewN ?_ _ | refine blk_drew ?_ | refine blk_alloc ?_ _)); exact BK209.out) hb); have n4_ := Aside0.mk (blk_below (g := gb216) (o := .cells #[.int .i64 t210, .slice Ao48 t211.length co48] 31 (0, 0)) (by (with_reducible repeat (first | refine blk_drewN ?_ _ | refine blk_drew ?_ | refine blk_alloc ?_ _)); refine blk_put (cs := #[.int .i64 t210, .slice none 0 0]) ?_ 1 _ rfl; (with_reducible repeat (first | refine blk_drewN ?_ _ | refine blk_drew ?_ | refine blk_alloc ?_ _)); refine blk_put (cs := #[.int .i64 0, .slice none 0 0]) ?_ 0 _ rfl; (with_reducible repeat (first | refine blk_drewN ?_ _ | refine blk_drew ?_ | refine blk_alloc ?_ _)); exact BK216.out) hb); have n5_ := Aside0.mk (below_step (by repeat (first | (with_reducible first | exact HB.out | apply below_alloc | apply pw_below_drewN | apply below_drew1 | refine below_set ?_ GE209.out | refine below_set ?_ GE216.out) | exact HB.out)) hb); clear HO203; clear HO207; clear HO213; clear BK209; clear BK216; clear HB; have HO203 := n0_; have HO207 := n1_; have HO213 := n2_; have BK209 := n3_; have BK216 := n4_; have HB := n5_; clear n0_ n1_ n2_ n3_ n4_ n5_; (try clear hb); (try clear hb2); (try clear hk); (try clear hi)) | ((with_reducible refine gate_callee (f := 14) rfl ?_); refine goesL_ (some 27) rfl rfl Try.func14 (by kernel_rfl) rfl #[.int .u64 12, .int .u64 10] rfl (by (try simp only [List.map_toArray, List.map_cons, List.map_nil]); first | done | rfl | (simp only [List.length_drop, List.length_take]; rfl)) ?_; (with_reducible refine (words_Half.calls 12 10 t219 t220 _ A4.out).mono ?_); rintro e w' ⟨rfl, ⟨nd, rfl⟩⟩; refine ⟨_, rfl, ?_⟩; have hcz50_0 : w49.cell? ⟨gb209, 0, none⟩ = some (.int .i64 t204) := (blk_cell BK209.out 0).trans rfl; have hcz50_1 : w49.cell? ⟨gb209, 1, none⟩ = some (.slice Ao43 t205.length co43) := (blk_cell BK209.out 1).trans rfl; have hfz50_0 := blk_frozen BK209.out 0; have hfz50_1 := blk_frozen BK209.out 1; have p221 : 0 ≤ (0 : Int) := (by omega); have q221 : 0 < (t205.length : Int) := of_decide_eq_true (by first | (with_reducible assumption) | assumption); obtain ⟨ad221, e221, hx221_0⟩ := Kd.at_int (Kd.R_reads' HO207.out).2.2 0 p221 q221; cases e221; have qi221 : (0 < t205.length) = True := eq_true (by omega); (try rw [show ((0 : Int)).toNat = 0 from rfl] at hx221_0); (try rw [Addr.add_zero'] at hx221_0); replace p221 := eq_true p221; replace q221 := eq_true q221; have hcz51_0 : w49.cell? ⟨gb216, 0, none⟩ = some (.int .i64 t210) := (blk_cell BK216.out 0).trans rfl; have hcz51_1 : w49.cell? ⟨gb216, 1, none⟩ = some (.slice Ao48 t211.length co48) := (blk_cell BK216.out 1).trans rfl; have hfz51_0 := blk_frozen BK216.out 0; have hfz51_1 := blk_frozen BK216.out 1) | (go_at_call 27; (with_reducible refine (words_Get.calls t210 _ _ t211 1 true _ ?side1 ?side2 A14.out).mono ?_); (case side1 => repeat (first | exact (Kd.R_reads' HO213.out).2.2 | (with_reducible refine Kd.C_alloc ?_ _) | (with_reducible refine Kd.C_drewN ?_ _) | (with_reducible refine Kd.C_drew ?_))); (case side2 => exact (Kd.R_reads' HO213.out).2.1); rintro e w52 ⟨rfl, hb⟩; have n0_ := Aside0.mk (Kd.R_below (by (with_reducible repeat (first | apply Kd.R_alloc | apply Kd.R_drewN | apply Kd.R_drew)); exact HO203.out) hb); have n1_ := Aside0.mk (Kd.R_below (by (with_reducible repeat (first | apply Kd.R_alloc | apply Kd.R_drewN | apply Kd.R_drew)); exact HO207.out) hb); have n2_ := Aside0.mk (Kd.R_below (by (with_reducible repeat (first | apply Kd.R_alloc | apply Kd.R_drewN | apply Kd.R_drew)); exact HO213.out) hb); have n3_ := Aside0.mk (blk_below (g := gb209) (o := .cells #[.int .i64 t204, .slice (some ad221) t205.length co43] 31 (0, 0)) (by (with_reducible repeat (first | refine blk_drewN ?_ _ | refine blk_drew ?_ | refine blk_alloc ?_ _)); exact BK209.out) hb); have n4_ := Aside0.mk (blk_below (g := gb216) (o := .cells #[.int .i64 t210, .slice Ao48 t211.length co48] 31 (0, 0)) (by (with_reducible repeat (first | refine blk_drewN ?_ _ | refine blk_drew ?_ | refine blk_alloc ?_ _)); exact BK216.out) hb); have n5_ := Aside0.mk (below_step (by repeat (first | (with_reducible first | exact HB.out | apply below_alloc | apply pw_below_drewN | apply below_drew1 | refine below_set ?_ GE209.out | refine below_set ?_ GE216.out) | exact HB.out)) hb); clear HO203; clear HO207; clear HO213; clear BK209; clear BK216; clear HB; have HO203 := n0_; have HO207 := n1_; have HO213 := n2_; have BK209 := n3_; have BK216 := n4_; have HB := n5_; clear n0_ n1_ n2_ n3_ n4_ n5_; (try clear hb); (try clear hb2); (try clear hk); (try clear hi); have hcz53_0 : w52.cell? ⟨gb216, 0, none⟩ = some (.int .i64 t210) := (blk_cell BK216.out 0).trans rfl; have hcz53_1 : w52.cell? ⟨gb216, 1, none⟩ = some (.slice Ao48 t211.length co48) := (blk_cell BK216.out 1).trans rfl; have hfz53_0 := blk_frozen BK216.out 0; have hfz53_1 := blk_frozen BK216.out 1) | (go_at_call 27; (with_reducible refine (words_Get.calls t210 _ _ t211 2 false _ ?side1 ?side2 A16.out).mono ?_); (case side1 => repeat (first | exact (Kd.R_reads' HO213.out).2.2 | (with_reducible refine Kd.C_alloc ?_ _) | (with_reducible refine Kd.C_drewN ?_ _) | (with_reducible refine Kd.C_drew ?_))); (case side2 => exact (Kd.R_reads' HO213.out).2.1); rintro e w54 ⟨rfl, hb⟩; have n0_ := Aside0.mk (Kd.R_below (by (with_reducible repeat (first | apply Kd.R_alloc | apply Kd.R_drewN | apply Kd.R_drew)); exact HO203.out) hb); have n1_ := Aside0.mk (Kd.R_below (by (with_reducible repeat (first | apply Kd.R_alloc | apply Kd.R_drewN | apply Kd.R_drew)); exact HO207.out) hb); have n2_ := Aside0.mk (Kd.R_below (by (with_reducible repeat (first | apply Kd.R_alloc | apply Kd.R_drewN | apply Kd.R_drew)); exact HO213.out) hb); have n3_ := Aside0.mk (blk_below (g := gb209) (o := .cells #[.int .i64 t204, .slice (some ad221) t205.length co43] 31 (0, 0)) (by (with_reducible repeat (first | refine blk_drewN ?_ _ | refine blk_drew ?_ | refine blk_alloc ?_ _)); exact BK209.out) hb); have n4_ := Aside0.mk (blk_below (g := gb216) (o := .cells #[.int .i64 t210, .slice Ao48 t211.length co48] 31 (0, 0)) (by (with_reducible repeat (first | refine blk_drewN ?_ _ | refine blk_drew ?_ | refine blk_alloc ?_ _)); exact BK216.out) hb); have n5_ := Aside0.mk (below_step (by repeat (first | (with_reducible first | exact HB.out | apply below_alloc | apply pw_below_drewN | apply below_drew1 | refine below_set ?_ GE209.out | refine below_set ?_ GE216.out) | exact HB.out)) hb); clear HO203; clear HO207; clear HO213; clear BK209; clear BK216; clear HB; have HO203 := n0_; have HO207 := n1_; have HO213 := n2_; have BK209 := n3_; have BK216 := n4_; have HB := n5_; clear n0_ n1_ n2_ n3_ n4_ n5_; (try clear hb); (try clear hb2); (try clear hk); (try clear hi)))
                          go_ret
                          exact ⟨by first | rfl | (simp [errW_none, errW_some] <;> rfl) | (simp [*, errW_none, errW_some] <;> rfl), by repeat (first | (with_reducible first | exact HB.out | apply below_alloc | apply pw_below_drewN | apply below_drew1 | refine below_set ?_ GE209.out | refine below_set ?_ GE216.out) | exact HB.out)⟩
                        · rw [if_neg c36] at H
                          exact absurd (Option.some.inj H) (by rw [hrt_]; decide)
                    · replace c15 := Bool.eq_false_iff.mpr c15
                      subst c15
                      have H1 : (some false) = some r := by rw [if_neg (show ¬ (false = true) by decide)] at H; exact H
                      exact absurd (Option.some.inj H1) (by rw [hrt_]; decide)
                  · rw [if_neg c13] at H
                    exact absurd (Option.some.inj H) (by rw [hrt_]; decide)
                · replace c12 := Bool.eq_false_iff.mpr c12
                  subst c12
                  have H1 : (some false) = some r := by rw [if_neg (show ¬ (false = true) by decide)] at H; exact H
                  exact absurd (Option.some.inj H1) (by rw [hrt_]; decide)
              · rw [if_neg c11] at H
                exact absurd (Option.some.inj H) (by rw [hrt_]; decide)
            · rw [if_neg c10] at H
              exact absurd H (by simp)
          · rw [if_neg c9] at H
            exact absurd (Option.some.inj H) (by rw [hrt_]; decide)
        · rw [if_neg c8] at H
          exact absurd (Option.some.inj H) (by rw [hrt_]; decide)
      · rw [if_neg c7] at H
        exact absurd (Option.some.inj H) (by rw [hrt_]; decide)
    · rw [if_neg c6] at H
      exact absurd (Option.some.inj H) (by rw [hrt_]; decide)
  · rw [if_neg c5] at H
    exact absurd (Option.some.inj H) (by rw [hrt_]; decide)
end Go.Proofs.Ytlghmadoogblcaa.PW
end
section
namespace Go.Proofs.Ytlghmadoogblcaa.Alive
open Go.RowKit Go.Proofs.Ytlghmadoogblcaa.PW Go.Proofs.YtlghmadoogblcaaW.PrintWords Go.Proofs.YtlghmadoogblcaaW.PrintLast Go.Proofs.YtlghmadoogblcaaW.PrintMore
set_option maxRecDepth 100000
theorem alive_true : vivariumlaw02_alive.f 100 = some true := by decide +kernel
end Go.Proofs.Ytlghmadoogblcaa.Alive
end
section
namespace Go.Proofs.Ytlghmadoogblcaa.Bits
open Go Go.RowKit Go.Proofs.Ytlghmadoogblcaa.PW Go.Proofs.YtlghmadoogblcaaW.PrintWords Go.Proofs.YtlghmadoogblcaaW.PrintLast Go.Proofs.YtlghmadoogblcaaW.PrintMore
set_option maxRecDepth 100000
theorem wrapU_small (n : Nat) (h : n < 18446744073709551616) : IntKind.u64.wrap (n : Int) = (n : Int) := by
  rw [IntKind.wrap_u64]; omega
def bit (n i : Nat) : Nat := (n.testBit i).toNat
theorem shr_nat (n i : Nat) (hi : i ≤ 64) : shr .u64 (n : Int) (i : Int) = ((n / 2 ^ i : Nat) : Int) := by
  unfold shr
  rw [Int.toNat_natCast, Nat.min_eq_left (by simpa [IntKind.bits] using hi)]
  simp
theorem bit_div (n i : Nat) : n / 2 ^ i % 2 = bit n i := by
  unfold bit; rw [Nat.toNat_testBit]
theorem tmod_bit (n i : Nat) (hi : i ≤ 64) : Int.tmod (shr .u64 (n : Int) (i : Int)) 2 = (bit n i : Int) := by
  rw [shr_nat n i hi, ← bit_div]
  exact (Int.ofNat_tmod _ _).symm
theorem shl_bit (b i : Nat) (hb : b < 2) (hi : i < 64) : shl .u64 (b : Int) (i : Int) = ((b * 2 ^ i : Nat) : Int) := by
  unfold shl
  rw [Int.toNat_natCast, Nat.min_eq_left (by simp [IntKind.bits]; omega)]
  have : b * 2 ^ i < 18446744073709551616 := by
    have h1 : 2 ^ i ≤ 2 ^ 63 := Nat.pow_le_pow_right (by decide) (by omega)
    have h2 : b * 2 ^ i ≤ 1 * 2 ^ 63 := Nat.mul_le_mul (by omega) h1
    omega
  have e : (b : Int) * 2 ^ i = ((b * 2 ^ i : Nat) : Int) := by simp
  rw [e, wrapU_small _ this]
end Go.Proofs.Ytlghmadoogblcaa.Bits
end
section
namespace Go.Proofs.Ytlghmadoogblcaa.Rowp
open Go Go.RowKit Go.Proofs.Ytlghmadoogblcaa.PW Go.Proofs.YtlghmadoogblcaaW.PrintWords Go.Proofs.YtlghmadoogblcaaW.PrintLast Go.Proofs.YtlghmadoogblcaaW.PrintMore Go.Proofs.Ytlghmadoogblcaa.Bits
set_option maxRecDepth 100000
set_option linter.unusedVariables false
def rowOf (m : Nat) (W : Nat → Nat) : List Int := (List.range m).map fun i => (W i : Int)
@[simp] theorem rowOf_len (m : Nat) (W : Nat → Nat) : (rowOf m W).length = m := by simp [rowOf]
theorem rowOf_get (m : Nat) (W : Nat → Nat) (i : Nat) (h : i < m) : (rowOf m W)[i]? = some (W i : Int) := by simp [rowOf, h]
theorem rowOf_rd (m : Nat) (W : Nat → Nat) (i : Nat) (h : i < m) : rd (rowOf m W) (i : Int) = (W i : Int) := by
  simp [rd, List.getD_eq_getElem?_getD, rowOf_get m W i h]
theorem rowOf_congr {m : Nat} {W W' : Nat → Nat} (h : ∀ i, i < m → W i = W' i) : rowOf m W = rowOf m W' := by
  unfold rowOf
  exact List.map_congr_left (fun i hi => by rw [h i (List.mem_range.1 hi)])
theorem rowOf_set (m : Nat) (W : Nat → Nat) (i x : Nat) : (rowOf m W).set ((i : Int)).toNat (x : Int) = rowOf m (fun t => if t = i then x else W t) := by
  apply List.ext_getElem?
  intro j
  rw [Int.toNat_natCast, List.getElem?_set]
  by_cases hj : j < m
  · rw [rowOf_get m _ j hj, rowOf_get m _ j hj]
    by_cases e : i = j
    · subst e; simp [hj]
    · simp [e, Ne.symm e]
  · have h1 : (rowOf m W)[j]? = none := by simp [rowOf]; omega
    have h2 : (rowOf m fun t => if t = i then x else W t)[j]? = none := by simp [rowOf]; omega
    rw [h1, h2]
    by_cases e : i = j
    · subst e; simp [hj]
    · simp [e]
def nw (n : Nat) : Nat := (n + 63) / 64
def ones : Nat := 18446744073709551615
def mask (n : Nat) : Nat := if n % 64 = 0 then ones else 2 ^ (n % 64) - 1
theorem mask_lt (n : Nat) : mask n < 18446744073709551616 := by
  unfold mask ones
  split
  · decide
  · have : 2 ^ (n % 64) ≤ 2 ^ 63 := Nat.pow_le_pow_right (by decide) (by omega)
    omega
structure Good (n : Nat) (W : Nat → Nat) : Prop where
  le : n ≤ 65538
  lt : ∀ i, i < nw n → W i < 18446744073709551616
  last : 0 < n → W (nw n - 1) &&& mask n = W (nw n - 1)
theorem w64 (x : Int) (h : -9223372036854775808 ≤ x ∧ x ≤ 9223372036854775807) : wrap64 x = x := by unfold wrap64; omega
theorem nwI (n : Nat) (h : n ≤ 65538) : wrap64 (Int.tdiv (wrap64 ((n : Int) + 63)) 64) = ((nw n : Nat) : Int) := by
  rw [w64 ((n : Int) + 63) (by omega)]
  have : Int.tdiv ((n : Int) + 63) 64 = ((nw n : Nat) : Int) := by
    unfold nw
    rw [show (n : Int) + 63 = ((n + 63 : Nat) : Int) by omega]
    exact (Int.ofNat_tdiv _ _).symm
  rw [this, w64]
  unfold nw; omega
theorem last_spec (n : Nat) : words_last.f (n : Int) = some ((mask n : Nat) : Int) := by
  unfold words_last.f mask
  have e : Int.tmod (n : Int) 64 = ((n % 64 : Nat) : Int) := (Int.ofNat_tmod _ _).symm
  rw [e]
  by_cases h : n % 64 = 0
  · rw [if_pos (by omega), if_pos h]; rfl
  · rw [if_neg (by omega), if_pos (by omega), if_neg h, show (1 : Int) = ((1 : Nat) : Int) from rfl, shl_bit 1 (n % 64) (by decide) (by omega), Nat.one_mul]
    have h1 : 2 ^ (n % 64) ≤ 2 ^ 63 := Nat.pow_le_pow_right (by decide) (by omega)
    have h2 : 0 < 2 ^ (n % 64) := Nat.pow_pos (by decide)
    have e2 : ((2 ^ (n % 64) : Nat) : Int) - ((1 : Nat) : Int) = ((2 ^ (n % 64) - 1 : Nat) : Int) := by omega
    rw [e2, wrapU_small _ (by omega)]
theorem andNot_zero (x m : Nat) (hx : x < 18446744073709551616) (hm : m < 18446744073709551616) (h : x &&& m = x) : Go.bits .andNot .u64 (x : Int) (m : Int) = 0 := by
  have h1 : (BitVec.ofInt 64 (x : Int)).toNat = x := by
    rw [BitVec.ofInt_natCast, BitVec.toNat_ofNat]; exact Nat.mod_eq_of_lt (by omega)
  have h2 : (BitVec.ofInt 64 (m : Int)).toNat = m := by
    rw [BitVec.ofInt_natCast, BitVec.toNat_ofNat]; exact Nat.mod_eq_of_lt (by omega)
  have hb : BitVec.ofInt 64 (x : Int) &&& BitVec.ofInt 64 (m : Int) = BitVec.ofInt 64 (x : Int) := by
    apply BitVec.eq_of_toNat_eq
    rw [BitVec.toNat_and, h1, h2, h]
  have hz : BitVec.ofInt 64 (x : Int) &&& ~~~ BitVec.ofInt 64 (m : Int) = 0#64 := by
    rw [← hb]
    generalize BitVec.ofInt 64 (x : Int) = X
    generalize BitVec.ofInt 64 (m : Int) = M
    ext i hi
    simp
  show IntKind.u64.wrap ((BitVec.ofInt 64 (x : Int) &&& ~~~ BitVec.ofInt 64 (m : Int)).toNat : Int) = 0
  rw [hz]; rfl
theorem valid_spec {n : Nat} {W : Nat → Nat} (g : Good n W) : words_Valid.f (n : Int) (rowOf (nw n) W) = some true := by
  unfold words_Valid.f
  have hle := g.le
  rw [if_neg (by omega), if_neg (by omega), nwI n hle, rowOf_len, if_pos rfl]
  by_cases h0 : nw n = 0
  · rw [if_pos (by omega)]
  · rw [if_neg (by omega)]
    have hm : nw n ≤ 1025 := by unfold nw; omega
    rw [w64 (((nw n : Nat) : Int) - 1) (by omega), if_pos (by omega), if_pos (by omega), last_spec]
    simp only [Option.bind_some]
    have e : ((nw n : Nat) : Int) - 1 = ((nw n - 1 : Nat) : Int) := by omega
    have hn : 0 < n := by unfold nw at h0; omega
    rw [e, rowOf_rd _ _ _ (by omega), andNot_zero _ _ (g.lt _ (by omega)) (mask_lt n) (g.last hn)]
    rfl
theorem blank_spec (n : Nat) (h : n ≤ 65538) : words_blank.f (n : Int) = some ((n : Int), List.replicate (nw n) 0) := by
  unfold words_blank.f
  have hm : nw n ≤ 1025 := by unfold nw; omega
  rw [nwI n h, if_pos (by omega), if_pos (by omega), Int.toNat_natCast]
theorem clone_spec (n : Nat) (h : n ≤ 65538) (R : List Int) (hR : R.length = nw n) : words_clone.f (n : Int) R = some ((n : Int), R) := by
  unfold words_clone.f
  rw [blank_spec n h]
  simp [hR, List.take_of_length_le (Nat.le_of_eq hR)]
theorem bits_xor_n (a b : Nat) (ha : a < 18446744073709551616) (hb : b < 18446744073709551616) : a ^^^ b < 18446744073709551616 := Nat.xor_lt_two_pow (n := 64) ha hb
theorem bits_or_n (a b : Nat) (ha : a < 18446744073709551616) (hb : b < 18446744073709551616) : a ||| b < 18446744073709551616 := Nat.or_lt_two_pow (n := 64) ha hb
theorem bits_and_n (a b : Nat) (ha : a < 18446744073709551616) (hb : b < 18446744073709551616) : a &&& b < 18446744073709551616 := Nat.and_lt_two_pow (n := 64) _ hb
theorem ones_bit (i : Nat) : ones.testBit i = decide (i < 64) := by
  rw [show ones = 2 ^ 64 - 1 from rfl, Nat.testBit_two_pow_sub_one]
theorem high (x i : Nat) (h : x < 18446744073709551616) (hi : ¬ i < 64) : x.testBit i = false :=
  Nat.testBit_lt_two_pow (Nat.lt_of_lt_of_le h (Nat.pow_le_pow_right (n := 2) (i := 64) (by decide) (by omega)))
theorem rowOf_zero (m : Nat) : rowOf m (fun _ => 0) = List.replicate m (0 : Int) := by
  apply List.ext_getElem?
  intro i
  by_cases h : i < m
  · rw [rowOf_get m _ i h, List.getElem?_replicate, if_pos h]; rfl
  · have : (rowOf m fun _ => 0)[i]? = none := by simp [rowOf]; omega
    rw [this, List.getElem?_replicate, if_neg h]
def setBit (W : Nat → Nat) (i t : Nat) : Nat := if t = i / 64 then W (i / 64) ||| 2 ^ (i % 64) else W t
theorem pow_lt64 (i : Nat) (h : i < 64) : 2 ^ i < 18446744073709551616 := by
  have : 2 ^ i ≤ 2 ^ 63 := Nat.pow_le_pow_right (by decide) (by omega)
  omega
end Go.Proofs.Ytlghmadoogblcaa.Rowp
end
section
namespace Go.Proofs.Ytlghmadoogblcaa.RefPlain
open Go Go.RowKit Go.Proofs.Ytlghmadoogblcaa.PW Go.Proofs.Ytlghmadoogblcaa.PB Go.Proofs.YtlghmadoogblcaaW.PrintWords Go.Proofs.YtlghmadoogblcaaW.PrintLast Go.Proofs.YtlghmadoogblcaaW.PrintMore Go.Proofs.Ytlghmadoogblcaa.Bits Go.Proofs.Ytlghmadoogblcaa.Rowp
set_option maxRecDepth 100000
set_option linter.unusedVariables false
def bitAt (W : Nat → Nat) (i : Nat) : Bool := (W (i / 64)).testBit (i % 64)
theorem nw_le {n : Nat} (h : n ≤ 65538) : nw n ≤ 1025 := by unfold nw; omega
theorem n_le (n : Nat) : n ≤ 64 * nw n := by unfold nw; omega
theorem mask_bit (n b : Nat) : (mask n).testBit b = if n % 64 = 0 then decide (b < 64) else decide (b < n % 64) := by
  unfold mask
  split
  · exact ones_bit b
  · exact Nat.testBit_two_pow_sub_one _ _
theorem good_high {n : Nat} {W : Nat → Nat} (g : Rowp.Good n W) (i : Nat) (h1 : n ≤ i) (h2 : i < 64 * nw n) : bitAt W i = false := by
  have hn : 0 < n := by
    rcases Nat.eq_zero_or_pos n with h0 | h0
    · subst h0; unfold nw at h2; omega
    · exact h0
  have e : i / 64 = nw n - 1 := by unfold nw at *; omega
  have hl := g.last hn
  unfold bitAt
  rw [e, ← hl, Nat.testBit_and, mask_bit]
  have h3 : n % 64 ≠ 0 := by unfold nw at *; omega
  rw [if_neg h3]
  have h4 : ¬ i % 64 < n % 64 := by unfold nw at *; omega
  simp [h4]
theorem good_of_bits {n : Nat} {W : Nat → Nat} (hn : n ≤ 65538) (hlt : ∀ t, t < nw n → W t < 18446744073709551616) (h : ∀ i, n ≤ i → i < 64 * nw n → bitAt W i = false) : Rowp.Good n W := by
  refine ⟨hn, hlt, fun h0 => Nat.eq_of_testBit_eq fun b => ?_⟩
  rw [Nat.testBit_and, mask_bit]
  have hw := hlt (nw n - 1) (by unfold nw; omega)
  by_cases hb : b < 64
  · by_cases hz : n % 64 = 0
    · rw [if_pos hz, decide_eq_true hb, Bool.and_true]
    · rw [if_neg hz]
      by_cases hb2 : b < n % 64
      · rw [decide_eq_true hb2, Bool.and_true]
      · have := h (64 * (nw n - 1) + b) (by unfold nw at *; omega) (by unfold nw at *; omega)
        unfold bitAt at this
        rw [show (64 * (nw n - 1) + b) / 64 = nw n - 1 by omega, show (64 * (nw n - 1) + b) % 64 = b by omega] at this
        rw [this, Bool.false_and]
  · rw [high _ _ hw hb, Bool.false_and]
theorem row_eq {n : Nat} {V W : Nat → Nat} (gv : Rowp.Good n V) (gw : Rowp.Good n W) (h : ∀ i, i < n → bitAt V i = bitAt W i) : rowOf (nw n) V = rowOf (nw n) W := by
  refine rowOf_congr (fun t ht => Nat.eq_of_testBit_eq fun b => ?_)
  by_cases hb : b < 64
  · have e : bitAt V (64 * t + b) = bitAt W (64 * t + b) := by
      by_cases hi : 64 * t + b < n
      · exact h _ hi
      · rw [good_high gv _ (by omega) (by omega), good_high gw _ (by omega) (by omega)]
    unfold bitAt at e
    rwa [show (64 * t + b) / 64 = t by omega, show (64 * t + b) % 64 = b by omega] at e
  · rw [high _ _ (gv.lt t ht) hb, high _ _ (gw.lt t ht) hb]
theorem tdiv64 (i : Nat) : Int.tdiv (i : Int) 64 = ((i / 64 : Nat) : Int) := (Int.ofNat_tdiv _ _).symm
theorem tmod64 (i : Nat) : Int.tmod (i : Int) 64 = ((i % 64 : Nat) : Int) := (Int.ofNat_tmod _ _).symm
theorem bit_one (x b : Nat) : ((bit x b : Int) == 1) = x.testBit b := by unfold bit; cases x.testBit b <;> rfl
theorem refbit_spec (n0 : Int) (m : Nat) (W : Nat → Nat) (hm : m ≤ 1025) (i : Nat) (hi : i < 64 * m) : vivariumref02_bit.f n0 (rowOf m W) (i : Int) = some (bitAt W i) := by
  unfold vivariumref02_bit.f
  have h1 : i / 64 < m := by omega
  have h2 : i % 64 < 64 := Nat.mod_lt _ (by decide)
  rw [tdiv64, tmod64, w64 ((i / 64 : Nat) : Int) (by omega), if_pos (by omega), rowOf_len, if_pos (by omega), wrapU_small (i % 64) (by omega), if_pos (by omega), rowOf_rd _ _ _ h1, tmod_bit _ _ (by omega), bit_one]
  rfl
theorem refvalid_loop (n0 : Int) (m : Nat) (W : Nat → Nat) (hm : m ≤ 1025) : ∀ (j k x : Nat) (xI : Int), xI = x → x + j = 64 * m → j < k →
    vivariumref02_Valid.l0 k xI n0 (rowOf m W) = some (decide (∀ i, i < 64 * m → x ≤ i → bitAt W i = false))
  | 0, k + 1, x, _, rfl, h, _ => by
    rw [vivariumref02_Valid.l0, rowOf_len, w64 (64 * ((m : Nat) : Int)) (by omega), if_neg (by omega), decide_eq_true (fun i h1 h2 => by omega)]
  | j + 1, k + 1, x, _, rfl, h, hk => by
    rw [vivariumref02_Valid.l0, rowOf_len, w64 (64 * ((m : Nat) : Int)) (by omega), if_pos (by omega), refbit_spec n0 m W hm x (by omega), Option.bind_some]
    by_cases hb : bitAt W x = true
    · rw [if_pos hb, decide_eq_false]
      intro hall
      have := hall x (by omega) (Nat.le_refl _)
      rw [hb] at this
      cases this
    · rw [if_neg hb, w64 ((x : Int) + 1) (by omega), refvalid_loop n0 m W hm j k (x + 1) _ (by omega) (by omega) (by omega)]
      congr 1
      refine decide_eq_decide.2 ⟨fun hall i h2 h1 => ?_, fun hall i h2 h1 => hall i h2 (by omega)⟩
      by_cases hx : i = x
      · subst hx; simpa using hb
      · exact hall i h2 (by omega)
theorem refvalid_at (n : Nat) (hn : n ≤ 65538) (W : Nat → Nat) (k : Nat) (hk : 70000 < k) : vivariumref02_Valid.f k (n : Int) (rowOf (nw n) W) = some (decide (∀ i, i < 64 * nw n → n ≤ i → bitAt W i = false)) := by
  have hm := nw_le hn
  have hl := n_le n
  obtain ⟨k, rfl⟩ : ∃ q, k = q + 1 := ⟨k - 1, by omega⟩
  unfold vivariumref02_Valid.f
  rw [if_neg (by omega), if_neg (by omega), nwI n hn, rowOf_len, show (((nw n : Nat) : Int) != ((nw n : Nat) : Int)) = false by simp, vivariumref02_Valid.j0, if_neg (by decide)]
  exact refvalid_loop _ _ W hm (64 * nw n - n) k n _ rfl (by omega) (by omega)
theorem refvalid_good {n : Nat} {W : Nat → Nat} (g : Rowp.Good n W) (k : Nat) (hk : 70000 < k) : vivariumref02_Valid.f k (n : Int) (rowOf (nw n) W) = some true := by
  rw [refvalid_at n g.le W k hk, decide_eq_true (fun i h2 h1 => good_high g i h1 h2)]
theorem rowOf_all (xs : List Int) (h : ∀ v ∈ xs, 0 ≤ v ∧ v < 18446744073709551616) : ∃ W : Nat → Nat, xs = rowOf xs.length W ∧ ∀ t, t < xs.length → W t < 18446744073709551616 := by
  refine ⟨fun t => (xs.getD t 0).toNat, ?_, fun t ht => ?_⟩
  · apply List.ext_getElem?
    intro i
    by_cases hi : i < xs.length
    · rw [rowOf_get _ _ _ hi, List.getD_eq_getElem?_getD, List.getElem?_eq_getElem hi]
      have := h _ (List.getElem_mem hi)
      simp
      omega
    · have : (rowOf xs.length fun t => (xs.getD t 0).toNat)[i]? = none := by simp [rowOf]; omega
      rw [this, List.getElem?_eq_none (by omega)]
  · have := h _ (List.getElem_mem ht)
    show (xs.getD t 0).toNat < _
    rw [List.getD_eq_getElem?_getD, List.getElem?_eq_getElem ht]
    simp
    omega
theorem andNot_conv (x m : Nat) (hx : x < 18446744073709551616) (hm : m < 18446744073709551616) (h : Go.bits .andNot .u64 (x : Int) (m : Int) = 0) : x &&& m = x := by
  have h1 : (BitVec.ofInt 64 (x : Int)).toNat = x := by
    rw [BitVec.ofInt_natCast, BitVec.toNat_ofNat]; exact Nat.mod_eq_of_lt (by omega)
  have h2 : (BitVec.ofInt 64 (m : Int)).toNat = m := by
    rw [BitVec.ofInt_natCast, BitVec.toNat_ofNat]; exact Nat.mod_eq_of_lt (by omega)
  have h' : IntKind.u64.wrap ((BitVec.ofInt 64 (x : Int) &&& ~~~ BitVec.ofInt 64 (m : Int)).toNat : Int) = 0 := h
  have hlt := (BitVec.ofInt 64 (x : Int) &&& ~~~ BitVec.ofInt 64 (m : Int)).isLt
  rw [wrapU_small _ (by omega)] at h'
  have hz : BitVec.ofInt 64 (x : Int) &&& ~~~ BitVec.ofInt 64 (m : Int) = 0#64 := BitVec.eq_of_toNat_eq (by simpa using h')
  have hb : BitVec.ofInt 64 (x : Int) &&& BitVec.ofInt 64 (m : Int) = BitVec.ofInt 64 (x : Int) := by
    revert hz
    generalize BitVec.ofInt 64 (x : Int) = X
    generalize BitVec.ofInt 64 (m : Int) = M
    intro hz
    ext i hi
    have := congrArg (fun q => q.getLsbD i) hz
    simp only [BitVec.getLsbD_and, BitVec.getLsbD_not, BitVec.getLsbD_zero, hi, decide_true, Bool.true_and] at this
    simp only [BitVec.getElem_and]
    simp only [← BitVec.getLsbD_eq_getElem]
    cases hX : X.getLsbD i <;> cases hM : M.getLsbD i <;> simp_all
  have := congrArg BitVec.toNat hb
  rwa [BitVec.toNat_and, h1, h2] at this
theorem row_cases (n : Int) (xs : List Int) (h : ∀ v ∈ xs, 0 ≤ v ∧ v < 18446744073709551616) :
    (∃ (m : Nat) (W : Nat → Nat), n = (m : Int) ∧ xs = rowOf (nw m) W ∧ Rowp.Good m W) ∨ (words_Valid.f n xs = some false ∧ ∀ k, 70000 < k → vivariumref02_Valid.f k n xs = some false) := by
  by_cases h0 : n < 0
  · right
    refine ⟨by unfold words_Valid.f; rw [if_pos h0], fun k hk => ?_⟩
    obtain ⟨k, rfl⟩ : ∃ q, k = q + 1 := ⟨k - 1, by omega⟩
    unfold vivariumref02_Valid.f
    rw [if_pos h0, vivariumref02_Valid.j0, if_pos rfl]
  by_cases h1 : n > 65538
  · right
    refine ⟨by unfold words_Valid.f; rw [if_neg h0, if_pos h1], fun k hk => ?_⟩
    obtain ⟨k, rfl⟩ : ∃ q, k = q + 1 := ⟨k - 1, by omega⟩
    unfold vivariumref02_Valid.f
    rw [if_neg h0, if_pos h1, vivariumref02_Valid.j0, if_pos rfl]
  obtain ⟨m, rfl⟩ : ∃ m : Nat, n = (m : Int) := ⟨n.toNat, by omega⟩
  have hm : m ≤ 65538 := by omega
  by_cases hl : xs.length = nw m
  · obtain ⟨W, hW, hlt⟩ := rowOf_all xs h
    rw [hl] at hW hlt
    by_cases hg : ∀ i, i < 64 * nw m → m ≤ i → bitAt W i = false
    · exact .inl ⟨m, W, rfl, hW, good_of_bits hm hlt (fun i a b => hg i b a)⟩
    · right
      refine ⟨?_, fun k hk => by rw [hW, refvalid_at m hm W k hk, decide_eq_false hg]⟩
      rw [hW]
      unfold words_Valid.f
      rw [if_neg (by omega), if_neg (by omega), nwI m hm, rowOf_len, if_pos rfl]
      have hz : nw m ≠ 0 := by
        intro e
        exact hg (fun i b a => by rw [e] at b; omega)
      have hle := nw_le hm
      rw [if_neg (by omega), w64 (((nw m : Nat) : Int) - 1) (by omega), if_pos (by omega), if_pos (by omega), last_spec, Option.bind_some]
      have e : ((nw m : Nat) : Int) - 1 = ((nw m - 1 : Nat) : Int) := by omega
      rw [e, rowOf_rd _ _ _ (by omega)]
      congr 1
      refine beq_eq_false_iff_ne.2 (fun hz2 => hg (fun i b a => ?_))
      have hc := andNot_conv _ _ (hlt _ (by omega)) (mask_lt m) hz2
      exact good_high ⟨hm, hlt, fun _ => hc⟩ i a b
  · right
    refine ⟨?_, fun k hk => ?_⟩
    · unfold words_Valid.f
      rw [if_neg (by omega), if_neg (by omega), nwI m hm, if_neg (by omega)]
    · obtain ⟨k, rfl⟩ : ∃ q, k = q + 1 := ⟨k - 1, by omega⟩
      unfold vivariumref02_Valid.f
      rw [if_neg (by omega), if_neg (by omega), nwI m hm, show ((xs.length : Int) != ((nw m : Nat) : Int)) = true by simp; omega, vivariumref02_Valid.j0, if_pos rfl]
def bitsOf (n : Nat) (W : Nat → Nat) : List Bool := (List.range n).map (bitAt W)
theorem bitsOf_len (n : Nat) (W : Nat → Nat) : (bitsOf n W).length = n := by simp [bitsOf]
theorem bitsOf_get {n : Nat} (W : Nat → Nat) {i : Nat} (h : i < n) : (bitsOf n W)[i]? = some (bitAt W i) := by simp [bitsOf, h]
def bitsUpto (n x : Nat) (W : Nat → Nat) : List Bool := (List.range n).map fun i => if i < x then bitAt W i else false
theorem bitsUpto_zero (n : Nat) (W : Nat → Nat) : bitsUpto n 0 W = List.replicate n false := by
  apply List.ext_getElem?
  intro i
  by_cases h : i < n
  · simp [bitsUpto, h]
  · simp [bitsUpto, h]
theorem bitsUpto_all (n : Nat) (W : Nat → Nat) : bitsUpto n n W = bitsOf n W := List.map_congr_left (fun i hi => if_pos (List.mem_range.1 hi))
theorem bitsUpto_set (n x : Nat) (W : Nat → Nat) (h : x < n) : (bitsUpto n x W).set x (bitAt W x) = bitsUpto n (x + 1) W := by
  apply List.ext_getElem?
  intro i
  rw [List.getElem?_set]
  by_cases hi : i < n
  · by_cases e : x = i
    · subst e
      simp [bitsUpto, hi]
    · rw [if_neg e]
      have : (i < x) = (i < x + 1) := by simp; omega
      simp [bitsUpto, hi, this]
  · have e : x ≠ i := by omega
    rw [if_neg e]
    simp [bitsUpto, hi]
theorem refbits_loop {n : Nat} (W : Nat → Nat) (hn : n ≤ 65538) : ∀ (j k x : Nat) (xI : Int), xI = x → x + j = n → j < k →
    vivariumref02_Bits.l0 k (bitsUpto n x W) xI (n : Int) (rowOf (nw n) W) = some (bitsOf n W)
  | 0, k + 1, x, _, rfl, h, _ => by
    rw [vivariumref02_Bits.l0, if_neg (by omega), show x = n by omega, bitsUpto_all]
  | j + 1, k + 1, x, _, rfl, h, hk => by
    have hl := n_le n
    rw [vivariumref02_Bits.l0, if_pos (by omega), refbit_spec _ _ W (nw_le hn) x (by omega), Option.bind_some, if_pos (by omega), if_pos (by simp [bitsUpto]; omega), Int.toNat_natCast, bitsUpto_set n x W (by omega), w64 ((x : Int) + 1) (by omega)]
    exact refbits_loop W hn j k (x + 1) _ (by omega) (by omega) (by omega)
theorem refbits_spec (n : Nat) (W : Nat → Nat) (hn : n ≤ 65538) (k : Nat) (hk : 70000 < k) : vivariumref02_Bits.f k (n : Int) (rowOf (nw n) W) = some (bitsOf n W) := by
  unfold vivariumref02_Bits.f
  rw [if_pos (by omega), if_pos (by omega), Int.toNat_natCast, ← bitsUpto_zero n W]
  exact refbits_loop W hn n k 0 _ rfl (by omega) (by omega)
theorem add_bit (x b : Nat) (h : x < 2 ^ b) : x + 2 ^ b = x ||| 2 ^ b := by
  have := Nat.two_pow_add_eq_or_of_lt h 1
  rw [Nat.mul_one] at this
  rw [Nat.add_comm, this, Nat.or_comm]
theorem bitAt_setBit (W : Nat → Nat) (i q : Nat) : bitAt (setBit W i) q = (bitAt W q || decide (q = i)) := by
  unfold bitAt setBit
  by_cases e : q / 64 = i / 64
  · rw [if_pos e, Nat.testBit_or, Nat.testBit_two_pow, e]
    congr 1
    exact decide_eq_decide.2 ⟨fun h => by omega, fun h => by rw [h]⟩
  · rw [if_neg e]
    have : ¬ q = i := fun h => e (by rw [h])
    simp [this]
theorem setBit_lt {W : Nat → Nat} {m i : Nat} (h : ∀ t, t < m → W t < 18446744073709551616) : ∀ t, t < m → setBit W i t < 18446744073709551616 := by
  intro t ht
  unfold setBit
  split
  · rename_i e; subst e; exact bits_or_n _ _ (h _ ht) (pow_lt64 _ (Nat.mod_lt _ (by decide)))
  · exact h t ht
theorem low_word {W : Nat → Nat} {i : Nat} (hz : ∀ q, i ≤ q → bitAt W q = false) (hlt : W (i / 64) < 18446744073709551616) : W (i / 64) < 2 ^ (i % 64) := by
  refine Nat.lt_pow_two_of_testBit _ (fun b hb => ?_)
  by_cases hb64 : b < 64
  · have := hz (64 * (i / 64) + b) (by omega)
    unfold bitAt at this
    rwa [show (64 * (i / 64) + b) / 64 = i / 64 by omega, show (64 * (i / 64) + b) % 64 = b by omega] at this
  · exact high _ _ hlt hb64
theorem row_loop {n : Nat} {l : List Bool} (hl : l.length = n) (hn : n ≤ 65538) :
    ∀ (j k i : Nat) (iI : Int) (W : Nat → Nat), iI = (i : Int) → j < k → i + j = n → (∀ t, W t < 18446744073709551616) → (∀ q, i ≤ q → bitAt W q = false) → (∀ q, q < i → bitAt W q = l.getD q false) →
    ∃ W', (∀ t, W' t < 18446744073709551616) ∧ (∀ q, n ≤ q → bitAt W' q = false) ∧ (∀ q, q < n → bitAt W' q = l.getD q false) ∧ vivariumref02_Row.l0 k l iI (n : Int) (rowOf (nw n) W) = some ((n : Int), rowOf (nw n) W')
  | 0, k + 1, i, _, W, rfl, _, h, h1, h2, h3 => ⟨W, h1, fun q hq => h2 q (by omega), fun q hq => h3 q (by omega), by rw [vivariumref02_Row.l0, if_neg (by omega)]⟩
  | j + 1, k + 1, i, _, W, rfl, hk, h, h1, h2, h3 => by
    have hi : i / 64 < nw n := by unfold nw; omega
    have hm := nw_le hn
    have e1 : wrap64 ((i : Int) + 1) = ((i + 1 : Nat) : Int) := by rw [w64 _ (by omega)]; omega
    have hrd : rdOf false l (i : Int) = l.getD i false := by simp [rdOf]
    rw [vivariumref02_Row.l0, if_pos (by omega), if_pos (by omega), hrd]
    have hb64 : i % 64 < 64 := Nat.mod_lt _ (by decide)
    by_cases hb : l.getD i false = true
    · have hlow := low_word h2 (h1 (i / 64))
      have hor : W (i / 64) + 2 ^ (i % 64) = W (i / 64) ||| 2 ^ (i % 64) := add_bit _ _ hlow
      have hsum : W (i / 64) + 2 ^ (i % 64) < 18446744073709551616 := by rw [hor]; exact bits_or_n _ _ (h1 _) (pow_lt64 _ hb64)
      rw [if_pos hb, tdiv64, tmod64, w64 ((i / 64 : Nat) : Int) (by omega), if_pos (by omega), rowOf_len, if_pos (by omega), wrapU_small (i % 64) (by omega), if_pos (by omega), rowOf_rd _ _ _ hi,
        show (1 : Int) = ((1 : Nat) : Int) from rfl, shl_bit 1 (i % 64) (by decide) hb64, Nat.one_mul,
        show ((W (i / 64) : Nat) : Int) + ((2 ^ (i % 64) : Nat) : Int) = ((W (i / 64) + 2 ^ (i % 64) : Nat) : Int) by omega, wrapU_small _ hsum, hor, rowOf_set]
      rw [show (i : Int) + ((1 : Nat) : Int) = (i : Int) + 1 from rfl, e1]
      refine row_loop hl hn j k (i + 1) _ (setBit W i) rfl (by omega) (by omega) (fun t => ?_) (fun q hq => ?_) (fun q hq => ?_)
      · exact setBit_lt (m := t + 1) (fun t _ => h1 t) t (by omega)
      · rw [bitAt_setBit, h2 q (by omega)]; simp; omega
      · rw [bitAt_setBit]
        by_cases e : q = i
        · subst e; rw [hb]; simp
        · rw [h3 q (by omega)]; simp [e]
    · rw [if_neg hb, e1]
      refine row_loop hl hn j k (i + 1) _ W rfl (by omega) (by omega) h1 (fun q hq => h2 q (by omega)) (fun q hq => ?_)
      by_cases e : q = i
      · subst e; rw [h2 q (Nat.le_refl _)]; simpa using (Bool.eq_false_iff.2 hb).symm
      · exact h3 q (by omega)
theorem row_spec {l : List Bool} (hl : l.length ≤ 65538) (k : Nat) (hk : 70000 < k) : ∃ W, Rowp.Good l.length W ∧ (∀ i, i < l.length → bitAt W i = l.getD i false) ∧ vivariumref02_Row.f k l = some ((l.length : Int), rowOf (nw l.length) W) := by
  obtain ⟨W, h1, h2, h3, h4⟩ := row_loop (l := l) rfl hl l.length k 0 0 (fun _ => 0) rfl (by omega) (by omega) (fun _ => by decide) (fun q _ => by simp [bitAt]) (fun q hq => by omega)
  refine ⟨W, good_of_bits hl (fun t _ => h1 t) (fun i hi _ => h2 i hi), h3, ?_⟩
  unfold vivariumref02_Row.f
  have hm := nw_le hl
  rw [nwI _ hl, if_pos (by omega), if_pos (by omega), Int.toNat_natCast]
  rw [rowOf_zero] at h4
  exact h4
def U64 (xs : List Int) : Prop := ∀ v ∈ xs, 0 ≤ v ∧ v < 18446744073709551616
theorem u64_wiped (xs : List Int) : U64 (xs.map fun v => Go.bits .xor .u64 v 6148914691236517205) := by
  intro v hv
  obtain ⟨q, _, rfl⟩ := List.mem_map.1 hv
  have := bits_within .xor .u64 q 6148914691236517205
  simp [IntKind.min, IntKind.max, IntKind.bits, IntKind.signed] at this
  omega
end Go.Proofs.Ytlghmadoogblcaa.RefPlain
end
section
namespace Go.Proofs.Ytlghmadoogblcaa.PW
open Go.RowKit Go.Proofs.YtlghmadoogblcaaW.PrintWords Go.Proofs.YtlghmadoogblcaaW.PrintLast Go.Proofs.YtlghmadoogblcaaW.PrintMore
attribute [local go_sem] max2_int min2_int max_two min_two max_three min_three max_four min_four   -- for this text's walks alone
set_option linter.unusedVariables false
set_option linter.unusedSimpArgs false
end Go.Proofs.Ytlghmadoogblcaa.PW
end
section
namespace Go.Proofs.Ytlghmadoogblcaa.PW
open Go.RowKit Go.Proofs.YtlghmadoogblcaaW.PrintWords Go.Proofs.YtlghmadoogblcaaW.PrintLast Go.Proofs.YtlghmadoogblcaaW.PrintMore
attribute [local go_sem] max2_int min2_int max_two min_two max_three min_three max_four min_four   -- for this text's walks alone
set_option linter.unusedVariables false
set_option linter.unusedSimpArgs false
end Go.Proofs.Ytlghmadoogblcaa.PW
end
section
namespace Go.Proofs.Ytlghmadoogblcaa.Rowp
open Go Go.RowKit Go.Proofs.Ytlghmadoogblcaa.PW Go.Proofs.YtlghmadoogblcaaW.PrintWords Go.Proofs.YtlghmadoogblcaaW.PrintLast Go.Proofs.YtlghmadoogblcaaW.PrintMore Go.Proofs.Ytlghmadoogblcaa.Bits
set_option maxRecDepth 100000
set_option linter.unusedVariables false
theorem rd31_0 (x y : S31) : rd_T31 [x, y] 0 = x := rfl
theorem rd31_1 (x y : S31) : rd_T31 [x, y] 1 = y := rfl
theorem fits_spec {n : Nat} {A B : Nat → Nat} (ga : Good n A) (gb : Good n B) (k : Nat) : words_fits.f (k + 6) [⟨(n : Int), rowOf (nw n) A⟩, ⟨(n : Int), rowOf (nw n) B⟩] = some 0 := by
  unfold words_fits.f
  have e2 : (([⟨(n : Int), rowOf (nw n) A⟩, ⟨(n : Int), rowOf (nw n) B⟩] : List S31).length : Int) = 2 := rfl
  have w1 : wrap64 ((0 : Int) + 1) = 1 := w64 _ (by decide)
  have w2 : wrap64 ((1 : Int) + 1) = 2 := w64 _ (by decide)
  rw [words_fits.l0, e2, if_pos (by decide), if_pos (by decide), if_pos (by decide), rd31_0, valid_spec ga]
  simp only [Option.bind_some, if_true, w1]
  rw [words_fits.l0, if_pos (by decide), if_pos (by decide), e2, if_pos (by decide), rd31_1, valid_spec gb]
  simp only [Option.bind_some, if_true, w2]
  rw [words_fits.l0, if_neg (by decide), e2]
  rw [words_fits.l1, if_pos (by decide), if_pos (by decide), e2, if_pos (by decide), if_pos (by decide), rd31_0, if_pos rfl, w1]
  rw [words_fits.l1, if_pos (by decide), if_pos (by decide), e2, if_pos (by decide), if_pos (by decide), rd31_1, rd31_0, if_pos rfl, w2]
  rw [words_fits.l1, if_neg (by decide)]
theorem fits_at {n : Nat} {A B : Nat → Nat} (ga : Good n A) (gb : Good n B) (k : Nat) (hk : 6 ≤ k) : words_fits.f k [⟨(n : Int), rowOf (nw n) A⟩, ⟨(n : Int), rowOf (nw n) B⟩] = some 0 := by
  have h := fits_spec ga gb (k - 6)
  rwa [Nat.sub_add_cancel hk] at h
theorem and_loop {n m : Nat} {A B : Nat → Nat} (hle : m ≤ 1025) (hA : ∀ t, t < m → A t < 18446744073709551616) (hB : ∀ t, t < m → B t < 18446744073709551616) :
    ∀ (j k i : Nat) (iI : Int), iI = (i : Int) → j < k → i + j = m → words_And.l0 k (rowOf m B) ((m : Nat) : Int) iI (n : Int) (rowOf m (fun t => if t < i then A t &&& B t else A t)) = some ((n : Int), rowOf m (fun t => A t &&& B t), 0)
  | 0, k + 1, i, _, rfl, _, h => by
    rw [words_And.l0, if_neg (by omega)]
    congr 3
    exact rowOf_congr fun t ht => if_pos (by omega)
  | j + 1, k + 1, i, _, rfl, hk, h => by
    rw [words_And.l0, if_pos (by omega), if_pos (by omega), rowOf_len, if_pos (by omega), rowOf_len, if_pos (by omega), rowOf_rd _ _ _ (by omega), rowOf_rd _ _ _ (by omega), if_neg (by omega),
      bits_and_u64_nat _ _ (hA _ (by omega)) (hB _ (by omega)), rowOf_set, w64 ((i : Int) + 1) (by omega), show (i : Int) + 1 = ((i + 1 : Nat) : Int) by omega]
    have hc : rowOf m (fun t => if t = i then A i &&& B i else if t < i then A t &&& B t else A t) = rowOf m (fun t => if t < i + 1 then A t &&& B t else A t) := by
      refine rowOf_congr fun t ht => ?_
      by_cases e : t = i
      · subst e; rw [if_pos rfl, if_pos (by omega)]
      · rw [if_neg e]
        by_cases h2 : t < i
        · rw [if_pos h2, if_pos (by omega)]
        · rw [if_neg h2, if_neg (by omega)]
    exact (congrArg (words_And.l0 k (rowOf m B) ((m : Nat) : Int) _ (n : Int)) hc).trans (and_loop hle hA hB j k (i + 1) _ rfl (by omega) (by omega))
theorem and_spec {n : Nat} {A B : Nat → Nat} (ga : Good n A) (gb : Good n B) (k : Nat) (hk : 1032 < k) : words_And.f k (n : Int) (rowOf (nw n) A) (n : Int) (rowOf (nw n) B) = some ((n : Int), rowOf (nw n) (fun t => A t &&& B t), 0) := by
  have hm : nw n ≤ 1025 := by have := ga.le; unfold nw; omega
  unfold words_And.f
  rw [fits_at ga gb k (by omega)]
  rw [Option.bind_some, if_pos rfl]
  rw [clone_spec n ga.le _ (rowOf_len _ _)]
  rw [Option.bind_some]
  have h := and_loop (n := n) (m := nw n) hm ga.lt gb.lt (nw n) k 0 0 rfl (by omega) (by omega)
  rw [rowOf_congr (W' := A) (fun t ht => if_neg (Nat.not_lt_zero t))] at h
  rw [rowOf_len]
  exact h
theorem or_loop {n m : Nat} {A B : Nat → Nat} (hle : m ≤ 1025) (hA : ∀ t, t < m → A t < 18446744073709551616) (hB : ∀ t, t < m → B t < 18446744073709551616) :
    ∀ (j k i : Nat) (iI : Int), iI = (i : Int) → j < k → i + j = m → words_Or.l0 k (rowOf m B) ((m : Nat) : Int) iI (n : Int) (rowOf m (fun t => if t < i then A t ||| B t else A t)) = some ((n : Int), rowOf m (fun t => A t ||| B t), 0)
  | 0, k + 1, i, _, rfl, _, h => by
    rw [words_Or.l0, if_neg (by omega)]
    congr 3
    exact rowOf_congr fun t ht => if_pos (by omega)
  | j + 1, k + 1, i, _, rfl, hk, h => by
    rw [words_Or.l0, if_pos (by omega), if_pos (by omega), rowOf_len, if_pos (by omega), rowOf_len, if_pos (by omega), rowOf_rd _ _ _ (by omega), rowOf_rd _ _ _ (by omega), if_neg (by omega),
      bits_or_u64_nat _ _ (hA _ (by omega)) (hB _ (by omega)), rowOf_set, w64 ((i : Int) + 1) (by omega), show (i : Int) + 1 = ((i + 1 : Nat) : Int) by omega]
    have hc : rowOf m (fun t => if t = i then A i ||| B i else if t < i then A t ||| B t else A t) = rowOf m (fun t => if t < i + 1 then A t ||| B t else A t) := by
      refine rowOf_congr fun t ht => ?_
      by_cases e : t = i
      · subst e; rw [if_pos rfl, if_pos (by omega)]
      · rw [if_neg e]
        by_cases h2 : t < i
        · rw [if_pos h2, if_pos (by omega)]
        · rw [if_neg h2, if_neg (by omega)]
    exact (congrArg (words_Or.l0 k (rowOf m B) ((m : Nat) : Int) _ (n : Int)) hc).trans (or_loop hle hA hB j k (i + 1) _ rfl (by omega) (by omega))
theorem or_spec {n : Nat} {A B : Nat → Nat} (ga : Good n A) (gb : Good n B) (k : Nat) (hk : 1032 < k) : words_Or.f k (n : Int) (rowOf (nw n) A) (n : Int) (rowOf (nw n) B) = some ((n : Int), rowOf (nw n) (fun t => A t ||| B t), 0) := by
  have hm : nw n ≤ 1025 := by have := ga.le; unfold nw; omega
  unfold words_Or.f
  rw [fits_at ga gb k (by omega)]
  rw [Option.bind_some, if_pos rfl]
  rw [clone_spec n ga.le _ (rowOf_len _ _)]
  rw [Option.bind_some]
  have h := or_loop (n := n) (m := nw n) hm ga.lt gb.lt (nw n) k 0 0 rfl (by omega) (by omega)
  rw [rowOf_congr (W' := A) (fun t ht => if_neg (Nat.not_lt_zero t))] at h
  rw [rowOf_len]
  exact h
theorem xor_loop {n m : Nat} {A B : Nat → Nat} (hle : m ≤ 1025) (hA : ∀ t, t < m → A t < 18446744073709551616) (hB : ∀ t, t < m → B t < 18446744073709551616) :
    ∀ (j k i : Nat) (iI : Int), iI = (i : Int) → j < k → i + j = m → words_Xor.l0 k (rowOf m B) ((m : Nat) : Int) iI (n : Int) (rowOf m (fun t => if t < i then A t ^^^ B t else A t)) = some ((n : Int), rowOf m (fun t => A t ^^^ B t), 0)
  | 0, k + 1, i, _, rfl, _, h => by
    rw [words_Xor.l0, if_neg (by omega)]
    congr 3
    exact rowOf_congr fun t ht => if_pos (by omega)
  | j + 1, k + 1, i, _, rfl, hk, h => by
    rw [words_Xor.l0, if_pos (by omega), if_pos (by omega), rowOf_len, if_pos (by omega), rowOf_len, if_pos (by omega), rowOf_rd _ _ _ (by omega), rowOf_rd _ _ _ (by omega), if_neg (by omega),
      bits_xor_u64_nat _ _ (hA _ (by omega)) (hB _ (by omega)), rowOf_set, w64 ((i : Int) + 1) (by omega), show (i : Int) + 1 = ((i + 1 : Nat) : Int) by omega]
    have hc : rowOf m (fun t => if t = i then A i ^^^ B i else if t < i then A t ^^^ B t else A t) = rowOf m (fun t => if t < i + 1 then A t ^^^ B t else A t) := by
      refine rowOf_congr fun t ht => ?_
      by_cases e : t = i
      · subst e; rw [if_pos rfl, if_pos (by omega)]
      · rw [if_neg e]
        by_cases h2 : t < i
        · rw [if_pos h2, if_pos (by omega)]
        · rw [if_neg h2, if_neg (by omega)]
    exact (congrArg (words_Xor.l0 k (rowOf m B) ((m : Nat) : Int) _ (n : Int)) hc).trans (xor_loop hle hA hB j k (i + 1) _ rfl (by omega) (by omega))
theorem xor_spec {n : Nat} {A B : Nat → Nat} (ga : Good n A) (gb : Good n B) (k : Nat) (hk : 1032 < k) : words_Xor.f k (n : Int) (rowOf (nw n) A) (n : Int) (rowOf (nw n) B) = some ((n : Int), rowOf (nw n) (fun t => A t ^^^ B t), 0) := by
  have hm : nw n ≤ 1025 := by have := ga.le; unfold nw; omega
  unfold words_Xor.f
  rw [fits_at ga gb k (by omega)]
  rw [Option.bind_some, if_pos rfl]
  rw [clone_spec n ga.le _ (rowOf_len _ _)]
  rw [Option.bind_some]
  have h := xor_loop (n := n) (m := nw n) hm ga.lt gb.lt (nw n) k 0 0 rfl (by omega) (by omega)
  rw [rowOf_congr (W' := A) (fun t ht => if_neg (Nat.not_lt_zero t))] at h
  rw [rowOf_len]
  exact h
def notW (n : Nat) (W : Nat → Nat) (t : Nat) : Nat := if t + 1 = nw n then (W t ^^^ ones) &&& mask n else W t ^^^ ones
theorem not_loop {n m : Nat} {W : Nat → Nat} (hm : m = nw n) (hle : m ≤ 1025) (hW : ∀ t, t < m → W t < 18446744073709551616) :
    ∀ (j k i : Nat) (iI : Int), iI = (i : Int) → j < k → i + j = m → words_Not.l0 k ((m : Nat) : Int) iI (n : Int) (rowOf m (fun t => if t < i then W t ^^^ ones else W t)) = some ((n : Int), rowOf m (notW n W), 0)
  | 0, k + 1, i, _, rfl, _, h => by
    have hi : i = m := by omega
    subst hi
    rw [words_Not.l0, if_neg (by omega), rowOf_len]
    by_cases h0 : i = 0
    · rw [if_neg (by omega)]
      subst h0; rfl
    · rw [if_pos (by omega), w64 ((i : Int) - 1) (by omega), if_pos (by omega), if_pos (by omega), last_spec]
      simp only [Option.bind_some]
      have e : (i : Int) - 1 = ((i - 1 : Nat) : Int) := by omega
      rw [e, rowOf_rd _ _ _ (by omega), if_pos (by omega), bits_and_u64_nat _ _ (bits_xor_n _ _ (hW _ (by omega)) (by decide)) (mask_lt n), rowOf_set]
      congr 3
      refine rowOf_congr fun t ht => ?_
      unfold notW
      by_cases ht1 : t = i - 1
      · subst ht1; rw [if_pos rfl, if_pos (by omega)]
      · rw [if_neg ht1, if_pos ht, if_neg (by omega)]
  | j + 1, k + 1, i, _, rfl, hk, h => by
    rw [words_Not.l0, if_pos (by omega), if_pos (by omega), rowOf_len, if_pos (by omega), rowOf_rd _ _ _ (by omega), if_neg (by omega),
      show (18446744073709551615 : Int) = ((ones : Nat) : Int) from rfl, bits_xor_u64_nat _ _ (hW _ (by omega)) (by decide), rowOf_set, w64 ((i : Int) + 1) (by omega), show (i : Int) + 1 = ((i + 1 : Nat) : Int) by omega]
    have hc : rowOf m (fun t => if t = i then W i ^^^ ones else if t < i then W t ^^^ ones else W t) = rowOf m (fun t => if t < i + 1 then W t ^^^ ones else W t) := by
      refine rowOf_congr fun t ht => ?_
      by_cases e : t = i
      · subst e; rw [if_pos rfl, if_pos (by omega)]
      · rw [if_neg e]
        by_cases h2 : t < i
        · rw [if_pos h2, if_pos (by omega)]
        · rw [if_neg h2, if_neg (by omega)]
    exact (congrArg (words_Not.l0 k ((m : Nat) : Int) _ (n : Int)) hc).trans (not_loop hm hle hW j k (i + 1) _ rfl (by omega) (by omega))
theorem not_spec {n : Nat} {W : Nat → Nat} (g : Good n W) (k : Nat) (hk : 1025 < k) : words_Not.f k (n : Int) (rowOf (nw n) W) = some ((n : Int), rowOf (nw n) (notW n W), 0) := by
  have hm : nw n ≤ 1025 := by have := g.le; unfold nw; omega
  unfold words_Not.f
  rw [valid_spec g]
  rw [Option.bind_some, if_pos rfl]
  rw [clone_spec n g.le _ (rowOf_len _ _)]
  rw [Option.bind_some]
  have h := not_loop (n := n) (m := nw n) rfl hm g.lt (nw n) k 0 0 rfl (by omega) (by omega)
  rw [rowOf_congr (W' := W) (fun t ht => if_neg (Nat.not_lt_zero t))] at h
  rw [rowOf_len]
  exact h
end Go.Proofs.Ytlghmadoogblcaa.Rowp
end
section
namespace Go.Proofs.Ytlghmadoogblcaa.Rowp
open Go Go.RowKit Go.Proofs.Ytlghmadoogblcaa.PW Go.Proofs.YtlghmadoogblcaaW.PrintWords Go.Proofs.YtlghmadoogblcaaW.PrintLast Go.Proofs.YtlghmadoogblcaaW.PrintMore Go.Proofs.Ytlghmadoogblcaa.Bits
set_option maxRecDepth 100000
set_option linter.unusedVariables false
theorem good_and {n : Nat} {A B : Nat → Nat} (ga : Good n A) (gb : Good n B) : Good n (fun t => A t &&& B t) :=
  ⟨ga.le, fun i hi => bits_and_n _ _ (ga.lt i hi) (gb.lt i hi), fun h => by
    show (A (nw n - 1) &&& B (nw n - 1)) &&& mask n = _
    rw [Nat.and_assoc, gb.last h]⟩
theorem good_or {n : Nat} {A B : Nat → Nat} (ga : Good n A) (gb : Good n B) : Good n (fun t => A t ||| B t) :=
  ⟨ga.le, fun i hi => bits_or_n _ _ (ga.lt i hi) (gb.lt i hi), fun h => by
    show (A (nw n - 1) ||| B (nw n - 1)) &&& mask n = _
    rw [Nat.and_or_distrib_right, ga.last h, gb.last h]⟩
theorem good_xor {n : Nat} {A B : Nat → Nat} (ga : Good n A) (gb : Good n B) : Good n (fun t => A t ^^^ B t) :=
  ⟨ga.le, fun i hi => bits_xor_n _ _ (ga.lt i hi) (gb.lt i hi), fun h => by
    show (A (nw n - 1) ^^^ B (nw n - 1)) &&& mask n = _
    rw [Nat.and_xor_distrib_right, ga.last h, gb.last h]⟩
theorem good_not {n : Nat} {A : Nat → Nat} (ga : Good n A) : Good n (notW n A) := by
  refine ⟨ga.le, fun i hi => ?_, fun h => ?_⟩
  · unfold notW
    split
    · exact bits_and_n _ _ (bits_xor_n _ _ (ga.lt i hi) (by decide)) (mask_lt n)
    · exact bits_xor_n _ _ (ga.lt i hi) (by decide)
  · unfold notW
    have : nw n - 1 + 1 = nw n := by unfold nw; omega
    rw [if_pos this, Nat.and_assoc, Nat.and_self]
end Go.Proofs.Ytlghmadoogblcaa.Rowp
end
section
namespace Go.Proofs.Ytlghmadoogblcaa.RefPlain
open Go Go.RowKit Go.Proofs.Ytlghmadoogblcaa.PW Go.Proofs.Ytlghmadoogblcaa.PB Go.Proofs.YtlghmadoogblcaaW.PrintWords Go.Proofs.YtlghmadoogblcaaW.PrintLast Go.Proofs.YtlghmadoogblcaaW.PrintMore Go.Proofs.Ytlghmadoogblcaa.Bits Go.Proofs.Ytlghmadoogblcaa.Rowp
set_option maxRecDepth 100000
set_option linter.unusedVariables false
def doneTo (n x : Nat) (f g : Nat → Bool) : List Bool := (List.range n).map fun i => if i < x then f i else g i
theorem doneTo_len (n x : Nat) (f g : Nat → Bool) : (doneTo n x f g).length = n := by simp [doneTo]
theorem doneTo_get {n x i : Nat} (f g : Nat → Bool) (h : i < n) : (doneTo n x f g)[i]? = some (if i < x then f i else g i) := by simp [doneTo, h]
theorem doneTo_rd {n x i : Nat} (f g : Nat → Bool) (h : i < n) : rdOf false (doneTo n x f g) (i : Int) = if i < x then f i else g i := by
  unfold rdOf
  rw [Int.toNat_natCast, List.getD_eq_getElem?_getD, doneTo_get f g h]
  rfl
theorem doneTo_set {n x : Nat} (f g : Nat → Bool) (h : x < n) : (doneTo n x f g).set x (f x) = doneTo n (x + 1) f g := by
  apply List.ext_getElem?
  intro i
  rw [List.getElem?_set]
  by_cases hi : i < n
  · rw [doneTo_get f g hi, doneTo_get f g hi]
    by_cases e : x = i
    · subst e
      rw [if_pos rfl, if_pos (by rw [doneTo_len]; exact h), if_pos (by omega)]
    · rw [if_neg e]
      by_cases h2 : i < x
      · rw [if_pos h2, if_pos (by omega)]
      · rw [if_neg h2, if_neg (by omega)]
  · have e : x ≠ i := by omega
    rw [if_neg e, List.getElem?_eq_none (by rw [doneTo_len]; omega), List.getElem?_eq_none (by rw [doneTo_len]; omega)]
theorem doneTo_zero (n : Nat) (f : Nat → Bool) : doneTo n 0 f (fun _ => false) = List.replicate n false := by
  apply List.ext_getElem?
  intro i
  by_cases h : i < n
  · simp [doneTo, h]
  · simp [doneTo, h]
theorem bitsOf_rd {n i : Nat} (W : Nat → Nat) (h : i < n) : rdOf false (bitsOf n W) (i : Int) = bitAt W i := by
  unfold rdOf
  rw [Int.toNat_natCast, List.getD_eq_getElem?_getD, bitsOf_get W h]
  rfl
theorem row_done {n : Nat} (hn : n ≤ 65538) (f g : Nat → Bool) : ∃ V, Rowp.Good n V ∧ (∀ i, i < n → bitAt V i = f i) ∧ ∀ k, 70000 < k → vivariumref02_Row.f k (doneTo n n f g) = some ((n : Int), rowOf (nw n) V) := by
  have hl : (doneTo n n f g).length = n := doneTo_len _ _ _ _
  obtain ⟨V, gV, hb, hr⟩ := row_spec (l := doneTo n n f g) (by omega) 70001 (by omega)
  rw [hl] at gV hb hr
  refine ⟨V, gV, fun i hi => ?_, fun k hk => at_rounds (g := fun k => vivariumref02_Row.f k (doneTo n n f g)) (fun k => vivariumref02_Row.mono _ k) (show 70001 ≤ k by omega) hr⟩
  rw [hb i hi, List.getD_eq_getElem?_getD, doneTo_get f g hi, if_pos hi]
  rfl
def joinBit (q : Int) (a b : Bool) : Bool := if q = 1 then a && b else if q = 2 then a || b else a != b
theorem refjoin_loop {n : Nat} (hn : n ≤ 65538) (q : Int) (A B : Nat → Nat) (V : List Int) (hR : ∀ k, 70000 < k → vivariumref02_Row.f k (doneTo n n (fun i => joinBit q (bitAt A i) (bitAt B i)) (fun _ => false)) = some ((n : Int), V)) :
    ∀ (j k x : Nat) (xI : Int), xI = x → x + j = n → j + 70001 < k → vivariumref02_Join.l0 k q (bitsOf n A) (bitsOf n B) (doneTo n x (fun i => joinBit q (bitAt A i) (bitAt B i)) (fun _ => false)) xI = some ((n : Int), V, 0)
  | 0, k + 1, x, _, rfl, h, hk => by
    obtain rfl : x = n := by omega
    rw [vivariumref02_Join.l0, bitsOf_len, if_neg (by omega), hR k (by omega)]
    rfl
  | j + 1, k + 1, x, _, rfl, h, hk => by
    have hx : x < n := by omega
    have ih := refjoin_loop hn q A B V hR j k (x + 1) _ rfl (by omega) (by omega)
    have hs := doneTo_set (fun i => joinBit q (bitAt A i) (bitAt B i)) (fun _ => false) hx
    rw [vivariumref02_Join.l0, bitsOf_len, if_pos (by omega), bitsOf_rd A hx, bitsOf_len, bitsOf_rd B hx, doneTo_len, w64 ((x : Int) + 1) (by omega), show (x : Int) + 1 = ((x + 1 : Nat) : Int) by omega, Int.toNat_natCast]
    by_cases h1 : q = 1
    · rw [if_pos h1, if_pos (by omega)]
      by_cases ha : bitAt A x = true
      · rw [if_pos ha, if_pos (by omega), if_pos (by omega), show bitAt B x = joinBit q (bitAt A x) (bitAt B x) by simp [joinBit, h1, ha], hs]
        exact ih
      · have e : false = joinBit q (bitAt A x) (bitAt B x) := by simp [joinBit, h1, ha]
        rw [if_neg ha, if_pos (by omega)]
        rw [show (doneTo n x (fun i => joinBit q (bitAt A i) (bitAt B i)) fun _ => false).set x false = doneTo n (x + 1) (fun i => joinBit q (bitAt A i) (bitAt B i)) (fun _ => false) by rw [← hs, ← e]]
        exact ih
    · rw [if_neg h1]
      by_cases h2 : q = 2
      · rw [if_pos h2, if_pos (by omega)]
        by_cases ha : bitAt A x = true
        · have e : true = joinBit q (bitAt A x) (bitAt B x) := by simp [joinBit, h2, ha]
          rw [if_pos ha, if_pos (by omega)]
          rw [show (doneTo n x (fun i => joinBit q (bitAt A i) (bitAt B i)) fun _ => false).set x true = doneTo n (x + 1) (fun i => joinBit q (bitAt A i) (bitAt B i)) (fun _ => false) by rw [← hs, ← e]]
          exact ih
        · rw [if_neg ha, if_pos (by omega), if_pos (by omega), show bitAt B x = joinBit q (bitAt A x) (bitAt B x) by simp [joinBit, h2, ha], hs]
          exact ih
      · rw [if_neg h2, if_pos (by omega), if_pos (by omega), if_pos (by omega), show (bitAt A x != bitAt B x) = joinBit q (bitAt A x) (bitAt B x) by simp [joinBit, h1, h2], hs]
        exact ih
theorem refjoin_spec {n : Nat} {A B : Nat → Nat} (ga : Rowp.Good n A) (gb : Rowp.Good n B) (q : Int) (k : Nat) (hk : 150000 < k) :
    ∃ V, Rowp.Good n V ∧ (∀ i, i < n → bitAt V i = joinBit q (bitAt A i) (bitAt B i)) ∧ vivariumref02_Join.f k q (n : Int) (rowOf (nw n) A) (n : Int) (rowOf (nw n) B) = some ((n : Int), rowOf (nw n) V, 0) := by
  have hle := ga.le
  obtain ⟨k, rfl⟩ : ∃ z, k = z + 1 := ⟨k - 1, by omega⟩
  obtain ⟨V, gV, hb, hr⟩ := row_done hle (fun i => joinBit q (bitAt A i) (bitAt B i)) (fun _ => false)
  refine ⟨V, gV, hb, ?_⟩
  unfold vivariumref02_Join.f
  rw [refvalid_good ga _ (by omega), Option.bind_some, if_pos rfl, refvalid_good gb _ (by omega), Option.bind_some, show (!true) = false from rfl, vivariumref02_Join.j0, if_neg (by decide), if_pos rfl,
    refbits_spec n A hle k (by omega), Option.bind_some, refbits_spec n B hle k (by omega), Option.bind_some, bitsOf_len, if_pos (by omega), if_pos (by omega), Int.toNat_natCast, ← doneTo_zero n (fun i => joinBit q (bitAt A i) (bitAt B i))]
  exact refjoin_loop hle q A B _ hr n k 0 _ rfl (by omega) (by omega)
theorem bitAt_and (A B : Nat → Nat) (i : Nat) : bitAt (fun t => A t &&& B t) i = (bitAt A i && bitAt B i) := Nat.testBit_and _ _ _
theorem bitAt_or (A B : Nat → Nat) (i : Nat) : bitAt (fun t => A t ||| B t) i = (bitAt A i || bitAt B i) := Nat.testBit_or _ _ _
theorem bitAt_xor (A B : Nat → Nat) (i : Nat) : bitAt (fun t => A t ^^^ B t) i = (bitAt A i != bitAt B i) := Nat.testBit_xor _ _ _
theorem fits_bad1 (n1 n2 : Int) (X1 X2 : List Int) (h : words_Valid.f n1 X1 = some false) (k : Nat) (hk : 6 ≤ k) : words_fits.f k [⟨n1, X1⟩, ⟨n2, X2⟩] = some 20 := by
  obtain ⟨k, rfl⟩ : ∃ z, k = z + 1 := ⟨k - 1, by omega⟩
  unfold words_fits.f
  have e2 : (([⟨n1, X1⟩, ⟨n2, X2⟩] : List PW.S31).length : Int) = 2 := rfl
  rw [words_fits.l0, e2, if_pos (by decide), if_pos (by decide), if_pos (by decide), rd31_0, h, Option.bind_some, if_neg (by decide)]
theorem fits_bad2 (n1 n2 : Int) (X1 X2 : List Int) (h1 : words_Valid.f n1 X1 = some true) (h : words_Valid.f n2 X2 = some false) (k : Nat) (hk : 6 ≤ k) : words_fits.f k [⟨n1, X1⟩, ⟨n2, X2⟩] = some 20 := by
  obtain ⟨k, rfl⟩ : ∃ z, k = z + 2 := ⟨k - 2, by omega⟩
  unfold words_fits.f
  have e2 : (([⟨n1, X1⟩, ⟨n2, X2⟩] : List PW.S31).length : Int) = 2 := rfl
  have w1 : wrap64 ((0 : Int) + 1) = 1 := w64 _ (by decide)
  rw [words_fits.l0, e2, if_pos (by decide), if_pos (by decide), if_pos (by decide), rd31_0, h1, Option.bind_some, if_pos rfl, w1]
  rw [words_fits.l0, if_pos (by decide), if_pos (by decide), e2, if_pos (by decide), rd31_1, h, Option.bind_some, if_neg (by decide)]
theorem fits_unlike (n1 n2 : Int) (X1 X2 : List Int) (h1 : words_Valid.f n1 X1 = some true) (h2 : words_Valid.f n2 X2 = some true) (hne : n1 ≠ n2) (k : Nat) (hk : 6 ≤ k) : words_fits.f k [⟨n1, X1⟩, ⟨n2, X2⟩] = some 21 := by
  obtain ⟨k, rfl⟩ : ∃ z, k = z + 5 := ⟨k - 5, by omega⟩
  unfold words_fits.f
  have e2 : (([⟨n1, X1⟩, ⟨n2, X2⟩] : List PW.S31).length : Int) = 2 := rfl
  have w1 : wrap64 ((0 : Int) + 1) = 1 := w64 _ (by decide)
  have w2 : wrap64 ((1 : Int) + 1) = 2 := w64 _ (by decide)
  rw [words_fits.l0, e2, if_pos (by decide), if_pos (by decide), if_pos (by decide), rd31_0, h1, Option.bind_some, if_pos rfl, w1]
  rw [words_fits.l0, if_pos (by decide), if_pos (by decide), e2, if_pos (by decide), rd31_1, h2, Option.bind_some, if_pos rfl, w2]
  rw [words_fits.l0, if_neg (by decide), e2]
  rw [words_fits.l1, if_pos (by decide), if_pos (by decide), e2, if_pos (by decide), if_pos (by decide), rd31_0, if_pos rfl, w1]
  rw [words_fits.l1, if_pos (by decide), if_pos (by decide), e2, if_pos (by decide), if_pos (by decide), rd31_1, rd31_0, if_neg (fun e => hne e.symm)]
theorem refjoin_bad1 (q n1 n2 : Int) (X1 X2 : List Int) (h : ∀ k, 70000 < k → vivariumref02_Valid.f k n1 X1 = some false) (k : Nat) (hk : 150000 < k) : vivariumref02_Join.f k q n1 X1 n2 X2 = some (0, [], 20) := by
  obtain ⟨k, rfl⟩ : ∃ z, k = z + 1 := ⟨k - 1, by omega⟩
  unfold vivariumref02_Join.f
  rw [h _ (by omega), Option.bind_some, if_neg (by decide), vivariumref02_Join.j0, if_pos rfl]
theorem refjoin_bad2 (q n1 n2 : Int) (X1 X2 : List Int) (h1 : ∀ k, 70000 < k → vivariumref02_Valid.f k n1 X1 = some true) (h : ∀ k, 70000 < k → vivariumref02_Valid.f k n2 X2 = some false) (k : Nat) (hk : 150000 < k) : vivariumref02_Join.f k q n1 X1 n2 X2 = some (0, [], 20) := by
  obtain ⟨k, rfl⟩ : ∃ z, k = z + 1 := ⟨k - 1, by omega⟩
  unfold vivariumref02_Join.f
  rw [h1 _ (by omega), Option.bind_some, if_pos rfl, h _ (by omega), Option.bind_some, show (!false) = true from rfl, vivariumref02_Join.j0, if_pos rfl]
theorem refjoin_unlike (q n1 n2 : Int) (X1 X2 : List Int) (h1 : ∀ k, 70000 < k → vivariumref02_Valid.f k n1 X1 = some true) (h2 : ∀ k, 70000 < k → vivariumref02_Valid.f k n2 X2 = some true) (hne : n1 ≠ n2) (k : Nat) (hk : 150000 < k) : vivariumref02_Join.f k q n1 X1 n2 X2 = some (0, [], 21) := by
  obtain ⟨k, rfl⟩ : ∃ z, k = z + 1 := ⟨k - 1, by omega⟩
  unfold vivariumref02_Join.f
  rw [h1 _ (by omega), Option.bind_some, if_pos rfl, h2 _ (by omega), Option.bind_some, show (!true) = false from rfl, vivariumref02_Join.j0, if_neg (by decide), if_neg hne]
theorem join_agree (n1 n2 : Int) (X1 X2 : List Int) (h1 : U64 X1) (h2 : U64 X2) (k : Nat) (hk : 150000 < k) :
    (∃ m Y e, words_And.f k n1 X1 n2 X2 = some (m, Y, e) ∧ vivariumref02_Join.f k 1 n1 X1 n2 X2 = some (m, Y, e) ∧ Y.length ≤ 2000000) ∧
    (∃ m Y e, words_Or.f k n1 X1 n2 X2 = some (m, Y, e) ∧ vivariumref02_Join.f k 2 n1 X1 n2 X2 = some (m, Y, e) ∧ Y.length ≤ 2000000) ∧
    (∃ m Y e, words_Xor.f k n1 X1 n2 X2 = some (m, Y, e) ∧ vivariumref02_Join.f k 3 n1 X1 n2 X2 = some (m, Y, e) ∧ Y.length ≤ 2000000) := by
  have bad : ∀ e : Int, e ≠ 0 → words_fits.f k [⟨n1, X1⟩, ⟨n2, X2⟩] = some e → (∀ q, vivariumref02_Join.f k q n1 X1 n2 X2 = some (0, [], e)) →
      (∃ m Y e, words_And.f k n1 X1 n2 X2 = some (m, Y, e) ∧ vivariumref02_Join.f k 1 n1 X1 n2 X2 = some (m, Y, e) ∧ Y.length ≤ 2000000) ∧
      (∃ m Y e, words_Or.f k n1 X1 n2 X2 = some (m, Y, e) ∧ vivariumref02_Join.f k 2 n1 X1 n2 X2 = some (m, Y, e) ∧ Y.length ≤ 2000000) ∧
      (∃ m Y e, words_Xor.f k n1 X1 n2 X2 = some (m, Y, e) ∧ vivariumref02_Join.f k 3 n1 X1 n2 X2 = some (m, Y, e) ∧ Y.length ≤ 2000000) := by
    intro e he hf hj
    refine ⟨⟨0, [], e, ?_, hj 1, by simp⟩, ⟨0, [], e, ?_, hj 2, by simp⟩, ⟨0, [], e, ?_, hj 3, by simp⟩⟩
    · unfold words_And.f; rw [hf, Option.bind_some, if_neg he]
    · unfold words_Or.f; rw [hf, Option.bind_some, if_neg he]
    · unfold words_Xor.f; rw [hf, Option.bind_some, if_neg he]
  rcases row_cases n1 X1 h1 with ⟨a, A, rfl, rfl, ga⟩ | ⟨b1, b2⟩
  · rcases row_cases n2 X2 h2 with ⟨b, B, rfl, rfl, gb⟩ | ⟨b1, b2⟩
    · by_cases hab : a = b
      · subst hab
        have hle := nw_le ga.le
        obtain ⟨V1, g1, e1, r1⟩ := refjoin_spec ga gb 1 k hk
        obtain ⟨V2, g2, e2, r2⟩ := refjoin_spec ga gb 2 k hk
        obtain ⟨V3, g3, e3, r3⟩ := refjoin_spec ga gb 3 k hk
        refine ⟨⟨_, _, _, and_spec ga gb k (by omega), ?_, by rw [rowOf_len]; omega⟩, ⟨_, _, _, or_spec ga gb k (by omega), ?_, by rw [rowOf_len]; omega⟩, ⟨_, _, _, xor_spec ga gb k (by omega), ?_, by rw [rowOf_len]; omega⟩⟩
        · rw [r1, row_eq g1 (good_and ga gb) (fun i hi => by rw [e1 i hi, bitAt_and]; rfl)]
        · rw [r2, row_eq g2 (good_or ga gb) (fun i hi => by rw [e2 i hi, bitAt_or]; rfl)]
        · rw [r3, row_eq g3 (good_xor ga gb) (fun i hi => by rw [e3 i hi, bitAt_xor]; rfl)]
      · exact bad 21 (by decide) (fits_unlike _ _ _ _ (valid_spec ga) (valid_spec gb) (by omega) k (by omega)) (fun q => refjoin_unlike q _ _ _ _ (fun k hk => refvalid_good ga k hk) (fun k hk => refvalid_good gb k hk) (by omega) k hk)
    · exact bad 20 (by decide) (fits_bad2 _ _ _ _ (valid_spec ga) b1 k (by omega)) (fun q => refjoin_bad2 q _ _ _ _ (fun k hk => refvalid_good ga k hk) b2 k hk)
  · exact bad 20 (by decide) (fits_bad1 _ _ _ _ b1 k (by omega)) (fun q => refjoin_bad1 q _ _ _ _ b2 k hk)
theorem refnot_loop {n : Nat} (hn : n ≤ 65538) (A : Nat → Nat) (V : List Int) (hR : ∀ k, 70000 < k → vivariumref02_Row.f k (doneTo n n (fun i => !bitAt A i) (bitAt A)) = some ((n : Int), V)) :
    ∀ (j k x : Nat) (xI : Int), xI = x → x + j = n → j + 70001 < k → vivariumref02_Not.l0 k (doneTo n x (fun i => !bitAt A i) (bitAt A)) xI = some ((n : Int), V, 0)
  | 0, k + 1, x, _, rfl, h, hk => by
    obtain rfl : x = n := by omega
    rw [vivariumref02_Not.l0, doneTo_len, if_neg (by omega), hR k (by omega)]
    rfl
  | j + 1, k + 1, x, _, rfl, h, hk => by
    have hx : x < n := by omega
    have ih := refnot_loop hn A V hR j k (x + 1) _ rfl (by omega) (by omega)
    rw [vivariumref02_Not.l0, doneTo_len, if_pos (by omega), if_pos (by omega), doneTo_rd _ _ hx, if_neg (by omega), w64 ((x : Int) + 1) (by omega), show (x : Int) + 1 = ((x + 1 : Nat) : Int) by omega, Int.toNat_natCast,
      doneTo_set (fun i => !bitAt A i) (bitAt A) hx]
    exact ih
theorem refnot_spec {n : Nat} {A : Nat → Nat} (ga : Rowp.Good n A) (k : Nat) (hk : 150000 < k) :
    ∃ V, Rowp.Good n V ∧ (∀ i, i < n → bitAt V i = !bitAt A i) ∧ vivariumref02_Not.f k (n : Int) (rowOf (nw n) A) = some ((n : Int), rowOf (nw n) V, 0) := by
  have hle := ga.le
  obtain ⟨V, gV, hb, hr⟩ := row_done hle (fun i => !bitAt A i) (bitAt A)
  refine ⟨V, gV, hb, ?_⟩
  unfold vivariumref02_Not.f
  rw [refvalid_good ga _ (by omega), Option.bind_some, if_pos rfl, refbits_spec n A hle k (by omega), Option.bind_some]
  have h0 : bitsOf n A = doneTo n 0 (fun i => !bitAt A i) (bitAt A) := List.map_congr_left (fun i _ => by rw [if_neg (by omega)])
  rw [h0]
  exact refnot_loop hle A _ hr n k 0 _ rfl (by omega) (by omega)
theorem bitAt_not {n : Nat} (A : Nat → Nat) (i : Nat) (hi : i < n) : bitAt (notW n A) i = !bitAt A i := by
  have hb : i % 64 < 64 := Nat.mod_lt _ (by decide)
  unfold bitAt notW
  split
  · rename_i h
    rw [Nat.testBit_and, Nat.testBit_xor, ones_bit, decide_eq_true hb, mask_bit]
    have : (if n % 64 = 0 then decide (i % 64 < 64) else decide (i % 64 < n % 64)) = true := by
      split
      · exact decide_eq_true hb
      · refine decide_eq_true ?_
        unfold nw at h
        omega
    rw [this]
    simp
  · rw [Nat.testBit_xor, ones_bit, decide_eq_true hb]
    simp
theorem not_agree (n : Int) (xs : List Int) (h : U64 xs) (k : Nat) (hk : 150000 < k) : ∃ m Y e, words_Not.f k n xs = some (m, Y, e) ∧ vivariumref02_Not.f k n xs = some (m, Y, e) ∧ Y.length ≤ 2000000 := by
  rcases row_cases n xs h with ⟨m, A, rfl, rfl, ga⟩ | ⟨b1, b2⟩
  · have hle := nw_le ga.le
    obtain ⟨V, gV, e, r⟩ := refnot_spec ga k hk
    exact ⟨_, _, _, not_spec ga k (by omega), by rw [r, row_eq gV (good_not ga) (fun i hi => by rw [e i hi, bitAt_not A i hi])], by rw [rowOf_len]; omega⟩
  · refine ⟨0, [], 20, ?_, ?_, by simp⟩
    · unfold words_Not.f
      rw [b1, Option.bind_some, if_neg (by decide)]
    · unfold vivariumref02_Not.f
      rw [b2 _ (by omega), Option.bind_some, if_neg (by decide)]
end Go.Proofs.Ytlghmadoogblcaa.RefPlain
end
section
namespace Go.Proofs.Ytlghmadoogblcaa.JoinsWalk
open Go Go.RowKit Go.Proofs.YtlghmadoogblcaaW.PrintWords Go.Proofs.YtlghmadoogblcaaW.PrintLast Go.Proofs.YtlghmadoogblcaaW.PrintMore Go.Proofs.Ytlghmadoogblcaa.PW Go.Proofs.Ytlghmadoogblcaa.PB Go.Proofs.Ytlghmadoogblcaa.Book Go.Proofs.Ytlghmadoogblcaa.Lent Go.Proofs.Ytlghmadoogblcaa.Pile
set_option linter.unusedVariables false
set_option linter.unusedSimpArgs false
set_option maxHeartbeats 8000000 in
set_option maxRecDepth 100000 in
theorem core (k : Nat) (n1 n2 : Int) (Ar As : Option Addr) (cr cs : Nat) (X1 X2 X1z X2z : List Int) (m11 m12 m13 m21 m22 m23 m31 m32 m33 e11 e12 e13 e21 e22 e23 e31 e32 e33 mn en : Int) (Y11 Y12 Y13 Y21 Y22 Y23 Y31 Y32 Y33 Yn : List Int) (w : World)
    (hCr : Kd.C (Kd.int .u64) w Ar X1.length X1) (hlr : X1.length ≤ cr) (hmr : X1.length ≤ 17592186043904) (hCs : Kd.C (Kd.int .u64) w As X2.length X2) (hls : X2.length ≤ cs) (hms : X2.length ≤ 17592186043904) (hk : 17592186043906 < k)
    (hal : vivariumlaw02_alive.f k = some true) (hxz1 : X1.map (fun v => Go.bits .xor .u64 v 6148914691236517205) = X1z) (hxz2 : X2.map (fun v => Go.bits .xor .u64 v 6148914691236517205) = X2z)
    (a11 : words_And.f k n1 X1 n2 X2 = some (m11, Y11, e11)) (j11 : vivariumref02_Join.f k 1 n1 X1 n2 X2 = some (m11, Y11, e11)) (y11 : Y11.length ≤ 2000000) (a12 : words_Or.f k n1 X1 n2 X2 = some (m12, Y12, e12)) (j12 : vivariumref02_Join.f k 2 n1 X1 n2 X2 = some (m12, Y12, e12)) (y12 : Y12.length ≤ 2000000) (a13 : words_Xor.f k n1 X1 n2 X2 = some (m13, Y13, e13)) (j13 : vivariumref02_Join.f k 3 n1 X1 n2 X2 = some (m13, Y13, e13)) (y13 : Y13.length ≤ 2000000) (a21 : words_And.f k n2 X2 n2 X2 = some (m21, Y21, e21)) (j21 : vivariumref02_Join.f k 1 n2 X2 n2 X2 = some (m21, Y21, e21)) (y21 : Y21.length ≤ 2000000) (a22 : words_Or.f k n2 X2 n2 X2 = some (m22, Y22, e22)) (j22 : vivariumref02_Join.f k 2 n2 X2 n2 X2 = some (m22, Y22, e22)) (y22 : Y22.length ≤ 2000000) (a23 : words_Xor.f k n2 X2 n2 X2 = some (m23, Y23, e23)) (j23 : vivariumref02_Join.f k 3 n2 X2 n2 X2 = some (m23, Y23, e23)) (y23 : Y23.length ≤ 2000000) (a31 : words_And.f k n1 X1z n2 X2z = some (m31, Y31, e31)) (j31 : vivariumref02_Join.f k 1 n1 X1z n2 X2z = some (m31, Y31, e31)) (y31 : Y31.length ≤ 2000000) (a32 : words_Or.f k n1 X1z n2 X2z = some (m32, Y32, e32)) (j32 : vivariumref02_Join.f k 2 n1 X1z n2 X2z = some (m32, Y32, e32)) (y32 : Y32.length ≤ 2000000) (a33 : words_Xor.f k n1 X1z n2 X2z = some (m33, Y33, e33)) (j33 : vivariumref02_Join.f k 3 n1 X1z n2 X2z = some (m33, Y33, e33)) (y33 : Y33.length ≤ 2000000)
    (an : words_Not.f k n1 X1 = some (mn, Yn, en)) (jn : vivariumref02_Not.f k n1 X1 = some (mn, Yn, en)) (yn : Yn.length ≤ 2000000) :
    Calls Try.prog 10 #[.agg #[.int .i64 n1, .slice Ar X1.length cr], .agg #[.int .i64 n2, .slice As X2.length cs]] w fun e w' => e = .returned (.bool true) ∧ Below w.heap.size w w' := by
  have HCr := Aside0.mk hCr; have HLr := Aside0.mk hlr; have HMr := Aside0.mk hmr; have HCs := Aside0.mk hCs; have HLs := Aside0.mk hls; have HMs := Aside0.mk hms; have HK := Aside0.mk hk; have HA := Aside0.mk hal; have HXZ1 := Aside0.mk hxz1; have HXZ2 := Aside0.mk hxz2
  have HLZ1 := Aside0.mk (show X1z.length = X1.length by rw [← hxz1, List.length_map]); have HLZ2 := Aside0.mk (show X2z.length = X2.length by rw [← hxz2, List.length_map])
  have A11 := Aside0.mk a11; have J11 := Aside0.mk j11; have HY11 := Aside0.mk y11; have A12 := Aside0.mk a12; have J12 := Aside0.mk j12; have HY12 := Aside0.mk y12; have A13 := Aside0.mk a13; have J13 := Aside0.mk j13; have HY13 := Aside0.mk y13; have A21 := Aside0.mk a21; have J21 := Aside0.mk j21; have HY21 := Aside0.mk y21; have A22 := Aside0.mk a22; have J22 := Aside0.mk j22; have HY22 := Aside0.mk y22; have A23 := Aside0.mk a23; have J23 := Aside0.mk j23; have HY23 := Aside0.mk y23; have A31 := Aside0.mk a31; have J31 := Aside0.mk j31; have HY31 := Aside0.mk y31; have A32 := Aside0.mk a32; have J32 := Aside0.mk j32; have HY32 := Aside0.mk y32; have A33 := Aside0.mk a33; have J33 := Aside0.mk j33; have HY33 := Aside0.mk y33
  have AN := Aside0.mk an; have JN := Aside0.mk jn; have HYn := Aside0.mk yn
  have P := Aside0.mk (Pile0.start w)
  have E0 := At.mk (n := 0)
  have hu := Try.underlying31
  clear hCr hlr hmr hCs hls hms hk hal hxz1 hxz2 a11 j11 y11 a12 j12 y12 a13 j13 y13 a21 j21 y21 a22 j22 y22 a23 j23 y23 a31 j31 y31 a32 j32 y32 a33 j33 y33 an jn yn
  go_enter Try.func10, Try.ntmps10
  go_wp2_with (first
    | (go_at_call 13; have E_ := E0; have P1 := ((P.out.push [.int .i64 n1, .slice Ar X1.length cr] (w.heap.size) rfl).push [.int .i64 n2, .slice As X2.length cs] (w.heap.size + 1) (by simp)); with_reducible refine (vivariumlaw02_alive.calls k true _ rfl HA.out).mono ?_; rintro er_ v1 ⟨rfl, hb⟩; have P2 := P1.on hb; clear hb; clear P P1 E0 E_; have P := Aside0.mk P2; clear P2; have E1 := At.mk (n := 1); have z_ := P.out.at_ (i := 0) rfl; have q_r := z_.1; have x_r0 := z_.2 0 _ rfl; have x_r1 := z_.2 1 _ rfl; clear z_; have z_ := P.out.at_ (i := 1) rfl; have q_s := z_.1; have x_s0 := z_.2 0 _ rfl; have x_s1 := z_.2 1 _ rfl; clear z_)
    | (go_at_call 24; have E_ := E1; have P1 := P.out; with_reducible refine (Lent.lent n1 Ar cr X1 _ (Kd.C_below HCr.out P1.be) HLr.out HMr.out).mono ?_; rintro er_ v2 ⟨g0, d0, rfl, hl, hb⟩; have P2 := P1.lend hb hl; clear hb hl; clear q_r x_r0 x_r1; clear q_s x_s0 x_s1; clear P P1 E1 E_; have P := Aside0.mk P2; clear P2; have E2 := At.mk (n := 2); have z_ := P.out.at_ (i := 0) rfl; have q_r := z_.1; have x_r0 := z_.2 0 _ rfl; have x_r1 := z_.2 1 _ rfl; clear z_; have z_ := P.out.at_ (i := 1) rfl; have q_s := z_.1; have x_s0 := z_.2 0 _ rfl; have x_s1 := z_.2 1 _ rfl; clear z_)
    | (go_at_call 24; have E_ := E2; have P1 := (P.out.push [.int .i64 n1, .slice (some ⟨g0, 0, none⟩) X1.length d0] (v2.heap.size) rfl); with_reducible refine (Lent.lent n2 As cs X2 _ (Kd.C_below HCs.out P1.be) HLs.out HMs.out).mono ?_; rintro er_ v3 ⟨g1, d1, rfl, hl, hb⟩; have P2 := P1.lend hb hl; clear hb hl; clear q_r x_r0 x_r1; clear q_s x_s0 x_s1; clear P P1 E2 E_; have P := Aside0.mk P2; clear P2; have E3 := At.mk (n := 3); have z_ := P.out.at_ (i := 0) rfl; have q_r := z_.1; have x_r0 := z_.2 0 _ rfl; have x_r1 := z_.2 1 _ rfl; clear z_; have z_ := P.out.at_ (i := 1) rfl; have q_s := z_.1; have x_s0 := z_.2 0 _ rfl; have x_s1 := z_.2 1 _ rfl; clear z_; have z_ := P.out.at_ (i := 2) rfl; have q_x := z_.1; have x_x0 := z_.2 0 _ rfl; have x_x1 := z_.2 1 _ rfl; clear z_)
    | (go_at_call 37; have E_ := E3; have P1 := (Pile.make (P.out.push [.int .i64 n2, .slice (some ⟨g1, 0, none⟩) X2.length d1] (v3.heap.size) rfl) (v3.heap.size + 1) (by simp)); with_reducible refine (JoinsCall.joins k P1 rfl (by simp) n1 n2 X1 X2 (some ⟨g0, 0, none⟩) (some ⟨g1, 0, none⟩) Ar As d0 d1 cr cs (fun _ _ _ _ _ _ _ h_ => h_.p0.C (j := 0) rfl) (fun _ _ _ _ _ _ _ h_ => h_.p0.C (j := 1) rfl) (fun _ _ _ _ _ _ _ h_ => Kd.C_below HCr.out h_.p0.be) (fun _ _ _ _ _ _ _ h_ => Kd.C_below HCs.out h_.p0.be) (P1.p0.cap (j := 0) rfl) (P1.p0.cap (j := 1) rfl) HLr.out HLs.out m11 m12 m13 e11 e12 e13 Y11 Y12 Y13 HY11.out HY12.out HY13.out (by have := HK.out; omega) A11.out A12.out A13.out J11.out J12.out J13.out).mono ?_; rintro er_ v4 ⟨rfl, gv_, wv_, Z1, R1, hz1, hr1, P2⟩; have HZ1 := Aside0.mk hz1; have HR1 := Aside0.mk hr1; clear hz1 hr1; clear q_r x_r0 x_r1; clear q_s x_s0 x_s1; clear q_x x_x0 x_x1; clear P P1 E3 E_; have P := Aside0.mk P2; clear P2; have E4 := At.mk (n := 4); have z_ := P.out.p0.at_ (i := 0) rfl; have q_r := z_.1; have x_r0 := z_.2 0 _ rfl; have x_r1 := z_.2 1 _ rfl; clear z_; have z_ := P.out.p0.at_ (i := 1) rfl; have q_s := z_.1; have x_s0 := z_.2 0 _ rfl; have x_s1 := z_.2 1 _ rfl; clear z_; have z_ := P.out.p0.at_ (i := 2) rfl; have q_x := z_.1; have x_x0 := z_.2 0 _ rfl; have x_x1 := z_.2 1 _ rfl; clear z_; have z_ := P.out.p0.at_ (i := 3) rfl; have q_y := z_.1; have x_y0 := z_.2 0 _ rfl; have x_y1 := z_.2 1 _ rfl; clear z_)
    | (go_at_call 37; have E_ := E4; have P1 := P.out; with_reducible refine (JoinsCall.joins k P1 (by simp [HZ1.out]) (by have := HZ1.out; simp at this; omega) n2 n2 X2 X2 (some ⟨g1, 0, none⟩) (some ⟨g1, 0, none⟩) As As d1 d1 cs cs (fun _ _ _ _ _ _ _ h_ => h_.p0.C (j := 1) rfl) (fun _ _ _ _ _ _ _ h_ => h_.p0.C (j := 1) rfl) (fun _ _ _ _ _ _ _ h_ => Kd.C_below HCs.out h_.p0.be) (fun _ _ _ _ _ _ _ h_ => Kd.C_below HCs.out h_.p0.be) (P1.p0.cap (j := 1) rfl) (P1.p0.cap (j := 1) rfl) HLs.out HLs.out m21 m22 m23 e21 e22 e23 Y21 Y22 Y23 HY21.out HY22.out HY23.out (by have := HK.out; omega) A21.out A22.out A23.out J21.out J22.out J23.out).mono ?_; rintro er_ v5 ⟨rfl, gv_, wv_, Z2, R2, hz2, hr2, P2⟩; have HZ2 := Aside0.mk hz2; have HR2 := Aside0.mk hr2; clear hz2 hr2; clear q_r x_r0 x_r1; clear q_s x_s0 x_s1; clear q_x x_x0 x_x1; clear q_y x_y0 x_y1; clear P P1 E4 E_; have P := Aside0.mk P2; clear P2; have E5 := At.mk (n := 5); have z_ := P.out.p0.at_ (i := 0) rfl; have q_r := z_.1; have x_r0 := z_.2 0 _ rfl; have x_r1 := z_.2 1 _ rfl; clear z_; have z_ := P.out.p0.at_ (i := 1) rfl; have q_s := z_.1; have x_s0 := z_.2 0 _ rfl; have x_s1 := z_.2 1 _ rfl; clear z_; have z_ := P.out.p0.at_ (i := 2) rfl; have q_x := z_.1; have x_x0 := z_.2 0 _ rfl; have x_x1 := z_.2 1 _ rfl; clear z_; have z_ := P.out.p0.at_ (i := 3) rfl; have q_y := z_.1; have x_y0 := z_.2 0 _ rfl; have x_y1 := z_.2 1 _ rfl; clear z_)
    | (go_at_call 38; have E_ := E5; have P1 := P.out; with_reducible refine (vivariumref02_Not.calls k n1 Ar cr X1 mn Yn en _ (Kd.C_below HCr.out P1.p0.be) HLr.out JN.out).mono ?_; rintro er_ v6 ⟨t_, rfl, hR, hb⟩; have P2 := P1.told hb hR; obtain ⟨A_0, c_0, rfl, _, _⟩ := Kd.R_reads hR; clear hb hR; clear q_r x_r0 x_r1; clear q_s x_s0 x_s1; clear q_x x_x0 x_x1; clear q_y x_y0 x_y1; clear P P1 E5 E_; have P := Aside0.mk P2; clear P2; have E6 := At.mk (n := 6); have z_ := P.out.p0.at_ (i := 0) rfl; have q_r := z_.1; have x_r0 := z_.2 0 _ rfl; have x_r1 := z_.2 1 _ rfl; clear z_; have z_ := P.out.p0.at_ (i := 1) rfl; have q_s := z_.1; have x_s0 := z_.2 0 _ rfl; have x_s1 := z_.2 1 _ rfl; clear z_; have z_ := P.out.p0.at_ (i := 2) rfl; have q_x := z_.1; have x_x0 := z_.2 0 _ rfl; have x_x1 := z_.2 1 _ rfl; clear z_; have z_ := P.out.p0.at_ (i := 3) rfl; have q_y := z_.1; have x_y0 := z_.2 0 _ rfl; have x_y1 := z_.2 1 _ rfl; clear z_)
    | (go_at_call 39; have E_ := E6; have P1 := (P.out.push [.int .i64 mn, .slice A_0 Yn.length c_0] (v6.heap.size) rfl); with_reducible refine (words_Not.calls k n1 (some ⟨g0, 0, none⟩) d0 X1 mn Yn en _ (P1.p0.C (j := 0) rfl) (P1.p0.cap (j := 0) rfl) AN.out).mono ?_; rintro er_ v7 ⟨t_, rfl, hR, hb⟩; have P2 := P1.told hb hR; obtain ⟨A_1, c_1, rfl, _, _⟩ := Kd.R_reads hR; clear hb hR; clear q_r x_r0 x_r1; clear q_s x_s0 x_s1; clear q_x x_x0 x_x1; clear q_y x_y0 x_y1; clear P P1 E6 E_; have P := Aside0.mk P2; clear P2; have E7 := At.mk (n := 7); have z_ := P.out.p0.at_ (i := 0) rfl; have q_r := z_.1; have x_r0 := z_.2 0 _ rfl; have x_r1 := z_.2 1 _ rfl; clear z_; have z_ := P.out.p0.at_ (i := 1) rfl; have q_s := z_.1; have x_s0 := z_.2 0 _ rfl; have x_s1 := z_.2 1 _ rfl; clear z_; have z_ := P.out.p0.at_ (i := 2) rfl; have q_x := z_.1; have x_x0 := z_.2 0 _ rfl; have x_x1 := z_.2 1 _ rfl; clear z_; have z_ := P.out.p0.at_ (i := 3) rfl; have q_y := z_.1; have x_y0 := z_.2 0 _ rfl; have x_y1 := z_.2 1 _ rfl; clear z_; have z_ := P.out.p0.at_ (i := 4) rfl; have q_not := z_.1; have x_not0 := z_.2 0 _ rfl; have x_not1 := z_.2 1 _ rfl; clear z_)
    | (go_at_call 20; have E_ := E7; have P1 := (P.out.push [.int .i64 mn, .slice A_1 Yn.length c_1] (v7.heap.size) rfl); with_reducible refine (P1.adds k (R2.length + 1) (R2.length) mn en A_1 A_0 c_1 c_0 Yn (by simp) (by simp) (by simp [HZ1.out, HZ2.out]) (by have := HZ1.out; have := HZ2.out; simp at *; omega) HYn.out (by have := HYn.out; have := HK.out; omega)).mono ?_; rintro er_ v8 ⟨rfl, gv_, wv_, P2⟩; skip; clear q_r x_r0 x_r1; clear q_s x_s0 x_s1; clear q_x x_x0 x_x1; clear q_y x_y0 x_y1; clear q_not x_not0 x_not1; clear P P1 E7 E_; have P := Aside0.mk P2; clear P2; have E8 := At.mk (n := 8); have z_ := P.out.p0.at_ (i := 0) rfl; have q_r := z_.1; have x_r0 := z_.2 0 _ rfl; have x_r1 := z_.2 1 _ rfl; clear z_; have z_ := P.out.p0.at_ (i := 1) rfl; have q_s := z_.1; have x_s0 := z_.2 0 _ rfl; have x_s1 := z_.2 1 _ rfl; clear z_; have z_ := P.out.p0.at_ (i := 2) rfl; have q_x := z_.1; have x_x0 := z_.2 0 _ rfl; have x_x1 := z_.2 1 _ rfl; clear z_; have z_ := P.out.p0.at_ (i := 3) rfl; have q_y := z_.1; have x_y0 := z_.2 0 _ rfl; have x_y1 := z_.2 1 _ rfl; clear z_; have z_ := P.out.p0.at_ (i := 4) rfl; have q_not := z_.1; have x_not0 := z_.2 0 _ rfl; have x_not1 := z_.2 1 _ rfl; clear z_; have z_ := P.out.p0.at_ (i := 5) rfl; have q_n := z_.1; have x_n0 := z_.2 0 _ rfl; have x_n1 := z_.2 1 _ rfl; clear z_)
    | (go_at_call 30; have E_ := E8; have P1 := P.out; with_reducible refine (Lent.kept k n1 g0 d0 Ar cr X1 w.heap.size _ (P1.p0.lent 0 _ rfl) (Kd.C_below HCr.out P1.p0.be) HLr.out HMr.out (same_self k _ _ (by have := HMr.out; omega) (by have := HMr.out; have := HK.out; omega))).mono ?_; rintro er_ v9 ⟨rfl, hb⟩; have P2 := P1.on hb; clear hb; clear q_r x_r0 x_r1; clear q_s x_s0 x_s1; clear q_x x_x0 x_x1; clear q_y x_y0 x_y1; clear q_not x_not0 x_not1; clear q_n x_n0 x_n1; clear P P1 E8 E_; have P := Aside0.mk P2; clear P2; have E9 := At.mk (n := 9); have z_ := P.out.p0.at_ (i := 0) rfl; have q_r := z_.1; have x_r0 := z_.2 0 _ rfl; have x_r1 := z_.2 1 _ rfl; clear z_; have z_ := P.out.p0.at_ (i := 1) rfl; have q_s := z_.1; have x_s0 := z_.2 0 _ rfl; have x_s1 := z_.2 1 _ rfl; clear z_; have z_ := P.out.p0.at_ (i := 2) rfl; have q_x := z_.1; have x_x0 := z_.2 0 _ rfl; have x_x1 := z_.2 1 _ rfl; clear z_; have z_ := P.out.p0.at_ (i := 3) rfl; have q_y := z_.1; have x_y0 := z_.2 0 _ rfl; have x_y1 := z_.2 1 _ rfl; clear z_; have z_ := P.out.p0.at_ (i := 4) rfl; have q_not := z_.1; have x_not0 := z_.2 0 _ rfl; have x_not1 := z_.2 1 _ rfl; clear z_; have z_ := P.out.p0.at_ (i := 5) rfl; have q_n := z_.1; have x_n0 := z_.2 0 _ rfl; have x_n1 := z_.2 1 _ rfl; clear z_)
    | (go_at_call 30; have E_ := E9; have P1 := P.out; with_reducible refine (Lent.kept k n2 g1 d1 As cs X2 w.heap.size _ (P1.p0.lent 1 _ rfl) (Kd.C_below HCs.out P1.p0.be) HLs.out HMs.out (same_self k _ _ (by have := HMs.out; omega) (by have := HMs.out; have := HK.out; omega))).mono ?_; rintro er_ v10 ⟨rfl, hb⟩; have P2 := P1.on hb; clear hb; clear q_r x_r0 x_r1; clear q_s x_s0 x_s1; clear q_x x_x0 x_x1; clear q_y x_y0 x_y1; clear q_not x_not0 x_not1; clear q_n x_n0 x_n1; clear P P1 E9 E_; have P := Aside0.mk P2; clear P2; have E10 := At.mk (n := 10); have z_ := P.out.p0.at_ (i := 0) rfl; have q_r := z_.1; have x_r0 := z_.2 0 _ rfl; have x_r1 := z_.2 1 _ rfl; clear z_; have z_ := P.out.p0.at_ (i := 1) rfl; have q_s := z_.1; have x_s0 := z_.2 0 _ rfl; have x_s1 := z_.2 1 _ rfl; clear z_; have z_ := P.out.p0.at_ (i := 2) rfl; have q_x := z_.1; have x_x0 := z_.2 0 _ rfl; have x_x1 := z_.2 1 _ rfl; clear z_; have z_ := P.out.p0.at_ (i := 3) rfl; have q_y := z_.1; have x_y0 := z_.2 0 _ rfl; have x_y1 := z_.2 1 _ rfl; clear z_; have z_ := P.out.p0.at_ (i := 4) rfl; have q_not := z_.1; have x_not0 := z_.2 0 _ rfl; have x_not1 := z_.2 1 _ rfl; clear z_; have z_ := P.out.p0.at_ (i := 5) rfl; have q_n := z_.1; have x_n0 := z_.2 0 _ rfl; have x_n1 := z_.2 1 _ rfl; clear z_)
    | (go_at_call 31; have E_ := E10; have P1 := P.out; with_reducible refine (Lent.wipe n1 g0 d0 X1 w.heap.size _ (P1.p0.lent 0 _ rfl) P1.p0.be.size HMr.out).mono ?_; rintro er_ v11 ⟨rfl, hl, hg⟩; rw [HXZ1.out] at hl; have P2 := P1.wiped (i := 0) rfl hg hl; clear hl hg; clear q_r x_r0 x_r1; clear q_s x_s0 x_s1; clear q_x x_x0 x_x1; clear q_y x_y0 x_y1; clear q_not x_not0 x_not1; clear q_n x_n0 x_n1; clear P P1 E10 E_; have P := Aside0.mk P2; clear P2; have E11 := At.mk (n := 11); have z_ := P.out.p0.at_ (i := 0) rfl; have q_r := z_.1; have x_r0 := z_.2 0 _ rfl; have x_r1 := z_.2 1 _ rfl; clear z_; have z_ := P.out.p0.at_ (i := 1) rfl; have q_s := z_.1; have x_s0 := z_.2 0 _ rfl; have x_s1 := z_.2 1 _ rfl; clear z_; have z_ := P.out.p0.at_ (i := 2) rfl; have q_x := z_.1; have x_x0 := z_.2 0 _ rfl; have x_x1 := z_.2 1 _ rfl; clear z_; have z_ := P.out.p0.at_ (i := 3) rfl; have q_y := z_.1; have x_y0 := z_.2 0 _ rfl; have x_y1 := z_.2 1 _ rfl; clear z_; have z_ := P.out.p0.at_ (i := 4) rfl; have q_not := z_.1; have x_not0 := z_.2 0 _ rfl; have x_not1 := z_.2 1 _ rfl; clear z_; have z_ := P.out.p0.at_ (i := 5) rfl; have q_n := z_.1; have x_n0 := z_.2 0 _ rfl; have x_n1 := z_.2 1 _ rfl; clear z_)
    | (go_at_call 31; have E_ := E11; have P1 := P.out; with_reducible refine (Lent.wipe n2 g1 d1 X2 w.heap.size _ (P1.p0.lent 1 _ rfl) P1.p0.be.size HMs.out).mono ?_; rintro er_ v12 ⟨rfl, hl, hg⟩; rw [HXZ2.out] at hl; have P2 := P1.wiped (i := 1) rfl hg hl; clear hl hg; clear q_r x_r0 x_r1; clear q_s x_s0 x_s1; clear q_x x_x0 x_x1; clear q_y x_y0 x_y1; clear q_not x_not0 x_not1; clear q_n x_n0 x_n1; clear P P1 E11 E_; have P := Aside0.mk P2; clear P2; have E12 := At.mk (n := 12); have z_ := P.out.p0.at_ (i := 0) rfl; have q_r := z_.1; have x_r0 := z_.2 0 _ rfl; have x_r1 := z_.2 1 _ rfl; clear z_; have z_ := P.out.p0.at_ (i := 1) rfl; have q_s := z_.1; have x_s0 := z_.2 0 _ rfl; have x_s1 := z_.2 1 _ rfl; clear z_; have z_ := P.out.p0.at_ (i := 2) rfl; have q_x := z_.1; have x_x0 := z_.2 0 _ rfl; have x_x1 := z_.2 1 _ rfl; clear z_; have z_ := P.out.p0.at_ (i := 3) rfl; have q_y := z_.1; have x_y0 := z_.2 0 _ rfl; have x_y1 := z_.2 1 _ rfl; clear z_; have z_ := P.out.p0.at_ (i := 4) rfl; have q_not := z_.1; have x_not0 := z_.2 0 _ rfl; have x_not1 := z_.2 1 _ rfl; clear z_; have z_ := P.out.p0.at_ (i := 5) rfl; have q_n := z_.1; have x_n0 := z_.2 0 _ rfl; have x_n1 := z_.2 1 _ rfl; clear z_))
  refine start_ (n := 8) (S := fun w' => w'.cell? ⟨w.heap.size, 0, none⟩ = some (.int .i64 n1) ∧ w'.cell? ⟨w.heap.size, 1, none⟩ = some (.slice Ar X1.length cr) ∧ w'.cell? ⟨w.heap.size + 1, 0, none⟩ = some (.int .i64 n2) ∧ w'.cell? ⟨w.heap.size + 1, 1, none⟩ = some (.slice As X2.length cs) ∧ w'.cell? ⟨v2.heap.size, 0, none⟩ = some (.int .i64 n1) ∧ w'.cell? ⟨v2.heap.size, 1, none⟩ = some (.slice (some ⟨g0, 0, none⟩) X1.length d0) ∧ w'.cell? ⟨v3.heap.size, 0, none⟩ = some (.int .i64 n2) ∧ w'.cell? ⟨v3.heap.size, 1, none⟩ = some (.slice (some ⟨g1, 0, none⟩) X2.length d1) ∧ w'.cell? ⟨v6.heap.size, 0, none⟩ = some (.int .i64 mn) ∧ w'.cell? ⟨v6.heap.size, 1, none⟩ = some (.slice A_0 Yn.length c_0) ∧ w'.cell? ⟨v7.heap.size, 0, none⟩ = some (.int .i64 mn) ∧ w'.cell? ⟨v7.heap.size, 1, none⟩ = some (.slice A_1 Yn.length c_1)) (ds := []) #[false, false, false, false, false, false, false, false] (by kernel_rfl) rfl rfl ⟨x_r0, x_r1, x_s0, x_s1, x_x0, x_x1, x_y0, x_y1, x_not0, x_not1, x_n0, x_n1⟩ (fun hHeld => ?_)
  have P2 := P.out.on (below_drew (Below.refl v12.heap.size v12))
  clear P q_r x_r0 x_r1 q_s x_s0 x_s1 q_x x_x0 x_x1 q_y x_y0 x_y1 q_not x_not0 x_not1 q_n x_n0 x_n1
  have P := Aside0.mk P2
  clear P2
  generalize v12.drew = v13 at P hHeld ⊢
  refine pure_ (i := 0) (N := (some 62)) (v := ?_) (a' := ?_) #[true, false, false, false, false, false, false, false] rfl rfl (by kernel_rfl) (fun _ _ _ h => h) (Or.inl ⟨by rfl, ?_⟩) ?_ ?_
  rotate_left
  · intro w'
    go_simp
    with_reducible rfl
  rotate_left
  · simp only [Act.put, List.setIfInBounds_toArray, List.set_cons_zero, List.set_cons_succ, i64_w, i32_w]
    rfl
  refine take_ (i := 1) (N := (some 63)) (v := ?_) (a' := ?_) #[true, true, false, false, false, false, false, false] rfl rfl (by kernel_rfl) (fun _ _ _ h => h) (Or.inl ⟨by rfl, ?_⟩) hHeld ?_ ?_
  rotate_left
  · rintro w' ⟨s0, s1, s2, s3, s4, s5, s6, s7, s8, s9, s10, s11⟩
    go_simp
    with_reducible rfl
  rotate_left
  · simp only [Act.put, List.setIfInBounds_toArray, List.set_cons_zero, List.set_cons_succ, i64_w, i32_w]
    rfl
  refine take_ (i := 2) (N := (some 64)) (v := ?_) (a' := ?_) #[true, true, true, false, false, false, false, false] rfl rfl (by kernel_rfl) (fun _ _ _ h => h) (Or.inl ⟨by rfl, ?_⟩) hHeld ?_ ?_
  rotate_left
  · rintro w' ⟨s0, s1, s2, s3, s4, s5, s6, s7, s8, s9, s10, s11⟩
    go_simp
    with_reducible rfl
  rotate_left
  · simp only [Act.put, List.setIfInBounds_toArray, List.set_cons_zero, List.set_cons_succ, i64_w, i32_w]
    rfl
  refine take_ (i := 3) (N := (some 65)) (v := ?_) (a' := ?_) #[true, true, true, true, false, false, false, false] rfl rfl (by kernel_rfl) (fun _ _ _ h => h) (Or.inl ⟨by rfl, ?_⟩) hHeld ?_ ?_
  rotate_left
  · rintro w' ⟨s0, s1, s2, s3, s4, s5, s6, s7, s8, s9, s10, s11⟩
    go_simp
    with_reducible rfl
  rotate_left
  · simp only [Act.put, List.setIfInBounds_toArray, List.set_cons_zero, List.set_cons_succ, i64_w, i32_w]
    rfl
  refine take_ (i := 5) (N := (some 67)) (v := ?_) (a' := ?_) #[true, true, true, true, false, true, false, false] rfl rfl (by kernel_rfl) (fun _ _ _ h => h) (Or.inl ⟨by rfl, ?_⟩) hHeld ?_ ?_
  rotate_left
  · rintro w' ⟨s0, s1, s2, s3, s4, s5, s6, s7, s8, s9, s10, s11⟩
    go_simp
    with_reducible rfl
  rotate_left
  · simp only [Act.put, List.setIfInBounds_toArray, List.set_cons_zero, List.set_cons_succ, i64_w, i32_w]
    rfl
  refine one_ (i := 4) (N := (some 66)) #[true, true, true, true, true, true, false, false] rfl rfl (by kernel_rfl) (by decide) (fun K hK => ?_)
  have P1 := P.out
  refine goes_ Try.func24 (by kernel_rfl) rfl #[.agg #[.int .i64 n1, .slice (some ⟨g0, 0, none⟩) X1.length d0]] (by rfl) rfl rfl (by (try simp only [List.map_toArray, List.map_cons, List.map_nil]); first | done | rfl) ?_
  have h_ := Lent.lent n1 (some ⟨g0, 0, none⟩) d0 X1z _ (P1.p0.C (j := 0) rfl) (P1.p0.cap (j := 0) rfl) (by have := HMr.out; have := HLZ1.out; omega)
  rw [HLZ1.out] at h_
  with_reducible refine h_.mono ?_
  clear h_
  rintro er_ v14 ⟨g2, d2, rfl, hl, hb⟩
  refine ⟨_, rfl, ?_⟩
  have P2 := P1.lend hb hl
  clear hb hl
  refine hK.out _ _ ⟨(P2.p0.at_ (i := 0) rfl).2 0 _ rfl, (P2.p0.at_ (i := 0) rfl).2 1 _ rfl, (P2.p0.at_ (i := 1) rfl).2 0 _ rfl, (P2.p0.at_ (i := 1) rfl).2 1 _ rfl, (P2.p0.at_ (i := 2) rfl).2 0 _ rfl, (P2.p0.at_ (i := 2) rfl).2 1 _ rfl, (P2.p0.at_ (i := 3) rfl).2 0 _ rfl, (P2.p0.at_ (i := 3) rfl).2 1 _ rfl, (P2.p0.at_ (i := 4) rfl).2 0 _ rfl, (P2.p0.at_ (i := 4) rfl).2 1 _ rfl, (P2.p0.at_ (i := 5) rfl).2 0 _ rfl, (P2.p0.at_ (i := 5) rfl).2 1 _ rfl⟩ (fun hHeld => ?_)
  clear hK K
  clear P P1
  have P := Aside0.mk P2
  clear P2
  refine one_ (i := 6) (N := (some 68)) #[true, true, true, true, true, true, true, false] rfl rfl (by kernel_rfl) (by decide) (fun K hK => ?_)
  have P1 := P.out
  refine goes_ Try.func24 (by kernel_rfl) rfl #[.agg #[.int .i64 n2, .slice (some ⟨g1, 0, none⟩) X2.length d1]] (by rfl) rfl rfl (by (try simp only [List.map_toArray, List.map_cons, List.map_nil]); first | done | rfl) ?_
  have h_ := Lent.lent n2 (some ⟨g1, 0, none⟩) d1 X2z _ (P1.p0.C (j := 1) rfl) (P1.p0.cap (j := 1) rfl) (by have := HMs.out; have := HLZ2.out; omega)
  rw [HLZ2.out] at h_
  with_reducible refine h_.mono ?_
  clear h_
  rintro er_ v15 ⟨g3, d3, rfl, hl, hb⟩
  refine ⟨_, rfl, ?_⟩
  have P2 := P1.lend hb hl
  clear hb hl
  refine hK.out _ _ ⟨(P2.p0.at_ (i := 0) rfl).2 0 _ rfl, (P2.p0.at_ (i := 0) rfl).2 1 _ rfl, (P2.p0.at_ (i := 1) rfl).2 0 _ rfl, (P2.p0.at_ (i := 1) rfl).2 1 _ rfl, (P2.p0.at_ (i := 2) rfl).2 0 _ rfl, (P2.p0.at_ (i := 2) rfl).2 1 _ rfl, (P2.p0.at_ (i := 3) rfl).2 0 _ rfl, (P2.p0.at_ (i := 3) rfl).2 1 _ rfl, (P2.p0.at_ (i := 4) rfl).2 0 _ rfl, (P2.p0.at_ (i := 4) rfl).2 1 _ rfl, (P2.p0.at_ (i := 5) rfl).2 0 _ rfl, (P2.p0.at_ (i := 5) rfl).2 1 _ rfl⟩ (fun hHeld => ?_)
  clear hK K
  clear P P1
  have P := Aside0.mk P2
  clear P2
  refine one_ (i := 7) (N := (some 69)) #[true, true, true, true, true, true, true, true] rfl rfl (by kernel_rfl) (by decide) (fun K hK => ?_)
  have P1 := P.out
  refine goes_ Try.func37 (by kernel_rfl) rfl #[.pointer (some ⟨v3.heap.size + 1, 0, none⟩), .agg #[.int .i64 n1, .slice (some ⟨g0, 0, none⟩) X1.length d0], .agg #[.int .i64 n2, .slice (some ⟨g1, 0, none⟩) X2.length d1], .agg #[.int .i64 n1, .slice (some ⟨g2, 0, none⟩) X1.length d2], .agg #[.int .i64 n2, .slice (some ⟨g3, 0, none⟩) X2.length d3]] (by rfl) rfl rfl (by (try simp only [List.map_toArray, List.map_cons, List.map_nil]); first | done | rfl) ?_
  have h_ := JoinsCall.joins k P1 (by simp [HZ1.out, HZ2.out]) (by have := HZ1.out; have := HZ2.out; simp at *; omega) n1 n2 X1z X2z (some ⟨g0, 0, none⟩) (some ⟨g1, 0, none⟩) (some ⟨g2, 0, none⟩) (some ⟨g3, 0, none⟩) d0 d1 d2 d3 (fun _ _ _ _ _ _ _ h_ => h_.p0.C (j := 0) rfl) (fun _ _ _ _ _ _ _ h_ => h_.p0.C (j := 1) rfl) (fun _ _ _ _ _ _ _ h_ => h_.p0.C (j := 2) rfl) (fun _ _ _ _ _ _ _ h_ => h_.p0.C (j := 3) rfl) (P1.p0.cap (j := 0) rfl) (P1.p0.cap (j := 1) rfl) (P1.p0.cap (j := 2) rfl) (P1.p0.cap (j := 3) rfl) m31 m32 m33 e31 e32 e33 Y31 Y32 Y33 HY31.out HY32.out HY33.out (by have := HK.out; omega) A31.out A32.out A33.out J31.out J32.out J33.out
  rw [HLZ1.out, HLZ2.out] at h_
  with_reducible refine h_.mono ?_
  clear h_
  rintro er_ v16 ⟨rfl, gv_, wv_, Z3, R3, hz3, hr3, P2⟩
  refine ⟨_, rfl, ?_⟩
  have HZ3 := Aside0.mk hz3
  have HR3 := Aside0.mk hr3
  clear hz3 hr3
  refine hK.out _ _ ⟨(P2.p0.at_ (i := 0) rfl).2 0 _ rfl, (P2.p0.at_ (i := 0) rfl).2 1 _ rfl, (P2.p0.at_ (i := 1) rfl).2 0 _ rfl, (P2.p0.at_ (i := 1) rfl).2 1 _ rfl, (P2.p0.at_ (i := 2) rfl).2 0 _ rfl, (P2.p0.at_ (i := 2) rfl).2 1 _ rfl, (P2.p0.at_ (i := 3) rfl).2 0 _ rfl, (P2.p0.at_ (i := 3) rfl).2 1 _ rfl, (P2.p0.at_ (i := 4) rfl).2 0 _ rfl, (P2.p0.at_ (i := 4) rfl).2 1 _ rfl, (P2.p0.at_ (i := 5) rfl).2 0 _ rfl, (P2.p0.at_ (i := 5) rfl).2 1 _ rfl⟩ (fun hHeld => ?_)
  clear hK K
  clear P P1
  have P := Aside0.mk P2
  clear P2
  refine done_ (by kernel_rfl) ?_
  have E16 := At.mk (n := 16)
  clear hHeld
  have z_ := P.out.p0.at_ (i := 0) rfl
  have q_r := z_.1
  have x_r0 := z_.2 0 _ rfl
  have x_r1 := z_.2 1 _ rfl
  clear z_
  have z_ := P.out.p0.at_ (i := 1) rfl
  have q_s := z_.1
  have x_s0 := z_.2 0 _ rfl
  have x_s1 := z_.2 1 _ rfl
  clear z_
  have z_ := P.out.p0.at_ (i := 2) rfl
  have q_x := z_.1
  have x_x0 := z_.2 0 _ rfl
  have x_x1 := z_.2 1 _ rfl
  clear z_
  have z_ := P.out.p0.at_ (i := 3) rfl
  have q_y := z_.1
  have x_y0 := z_.2 0 _ rfl
  have x_y1 := z_.2 1 _ rfl
  clear z_
  have z_ := P.out.p0.at_ (i := 4) rfl
  have q_not := z_.1
  have x_not0 := z_.2 0 _ rfl
  have x_not1 := z_.2 1 _ rfl
  clear z_
  have z_ := P.out.p0.at_ (i := 5) rfl
  have q_n := z_.1
  have x_n0 := z_.2 0 _ rfl
  have x_n1 := z_.2 1 _ rfl
  clear z_
  go_wp2_with (first
    | (go_at_call 23; have E_ := E16; have P1 := P.out; with_reducible refine (P1.stands k (by simp [HR1.out, HR2.out]) (by have := HZ1.out; have := HZ2.out; have := HZ3.out; simp at *; omega) (by have := HK.out; omega)).mono ?_; rintro er_ v17 ⟨rfl, hb⟩; clear q_r x_r0 x_r1; clear q_s x_s0 x_s1; clear q_x x_x0 x_x1; clear q_y x_y0 x_y1; clear q_not x_not0 x_not1; clear q_n x_n0 x_n1; clear P P1 E16 E_; have HF := Aside0.mk hb; clear hb))
  go_ret
  exact ⟨rfl, HF.out⟩
theorem law (n1 n2 : Int) (Ar As : Option Addr) (cr cs : Nat) (X1 X2 : List Int) (w : World) (hCr : Kd.C (Kd.int .u64) w Ar X1.length X1) (hlr : X1.length ≤ cr) (hmr : X1.length ≤ 17592186043904) (hCs : Kd.C (Kd.int .u64) w As X2.length X2) (hls : X2.length ≤ cs) (hms : X2.length ≤ 17592186043904) (hu1 : RefPlain.U64 X1) (hu2 : RefPlain.U64 X2) :
    Calls Try.prog 10 #[.agg #[.int .i64 n1, .slice Ar X1.length cr], .agg #[.int .i64 n2, .slice As X2.length cs]] w fun e w' => e = .returned (.bool true) ∧ Below w.heap.size w w' := by
  obtain ⟨k, hk⟩ : ∃ k, k = 17592186043908 := ⟨_, rfl⟩
  have hz1 := RefPlain.u64_wiped X1
  have hz2 := RefPlain.u64_wiped X2
  obtain ⟨⟨m11, Y11, e11, a11, j11, y11⟩, ⟨m12, Y12, e12, a12, j12, y12⟩, ⟨m13, Y13, e13, a13, j13, y13⟩⟩ := RefPlain.join_agree n1 n2 X1 X2 hu1 hu2 k (by omega)
  obtain ⟨⟨m21, Y21, e21, a21, j21, y21⟩, ⟨m22, Y22, e22, a22, j22, y22⟩, ⟨m23, Y23, e23, a23, j23, y23⟩⟩ := RefPlain.join_agree n2 n2 X2 X2 hu2 hu2 k (by omega)
  obtain ⟨⟨m31, Y31, e31, a31, j31, y31⟩, ⟨m32, Y32, e32, a32, j32, y32⟩, ⟨m33, Y33, e33, a33, j33, y33⟩⟩ := RefPlain.join_agree n1 n2 _ _ hz1 hz2 k (by omega)
  obtain ⟨mn, Yn, en, an, jn, yn⟩ := RefPlain.not_agree n1 X1 hu1 k (by omega)
  exact core k n1 n2 Ar As cr cs X1 X2 _ _ m11 m12 m13 m21 m22 m23 m31 m32 m33 e11 e12 e13 e21 e22 e23 e31 e32 e33 mn en Y11 Y12 Y13 Y21 Y22 Y23 Y31 Y32 Y33 Yn w hCr hlr hmr hCs hls hms (by omega) (at_rounds (g := fun k => vivariumlaw02_alive.f k) (fun k => vivariumlaw02_alive.mono k) (by omega) Alive.alive_true) rfl rfl a11 j11 y11 a12 j12 y12 a13 j13 y13 a21 j21 y21 a22 j22 y22 a23 j23 y23 a31 j31 y31 a32 j32 y32 a33 j33 y33 an jn yn
end Go.Proofs.Ytlghmadoogblcaa.JoinsWalk
end
section
namespace Go.Proofs.Ytlghmadoogblcaa.OpenRow
open Go Go.RowKit Go.Proofs.YtlghmadoogblcaaW.PrintWords Go.Proofs.Ytlghmadoogblcaa.RefPlain
set_option linter.unusedVariables false
theorem open_words {H : Type} {enc : TypeId × Value → H} {P : Program} {w : World} {base n : Nat} {spare : Nat → Bool} {held : Bool} {t e : TypeId} {v : Value} {x : DataW H × List MemPlace} (ht : P.underlying t = some (.slice e)) (he : P.underlying e = some (.int .u64)) (hc : P.cellsOf e = 1)
    (h : DataW.trod enc P w base spare held n t [v] = some x) : ∃ (A : Option Addr) (c : Nat) (zs : List Int), v = .slice A zs.length c ∧ zs.length ≤ c ∧ Kd.C (Kd.int .u64) w A zs.length zs ∧ U64 zs ∧ (zs.length = 0 ∨ ∃ elems rest, elems.length = zs.length ∧ x.1 = .slice elems rest) := by
  rcases Go.ChangeShapes.open_ints ht he hc h with ⟨h1, _⟩ | ⟨a, len, cap, zs, h1, _, hl, hm, hz, hx, hcell, hwf⟩
  · obtain rfl : v = .slice none 0 0 := by simpa using h1
    exact ⟨none, 0, [], rfl, Nat.le_refl _, Kd.C_nil _ _, fun v hv => by simp at hv, .inl rfl⟩
  · obtain rfl : v = .slice (some a) len cap := by simpa using h1
    have hzl : len ≤ zs.length := by rw [hz]; split <;> omega
    have hlen : (zs.take len).length = len := by simp; omega
    refine ⟨some a, cap, zs.take len, by rw [hlen], by rw [hlen]; exact hl, ⟨rfl, by rw [hlen]; simp [maxLen] at hm; omega, fun _ => ⟨a, rfl, fun j p hj => ⟨[.int .u64 p], rfl, rfl, fun i u hu => ?_⟩⟩⟩, fun q hq => ?_, .inr ⟨_, _, ?_, by rw [hx]⟩⟩
    · have hj' : j < len := by
        have := (List.getElem?_eq_some_iff.1 hj).1
        omega
      have hp : zs[j]? = some p := by rwa [List.getElem?_take_of_lt hj'] at hj
      match i, hu with
      | 0, hu =>
        obtain rfl : Value.int .u64 p = u := by simpa using hu
        have := hcell j (by omega)
        rw [List.getD_eq_getElem?_getD, hp] at this
        simpa [Kd.int, Kd.scalar] using this
      | i + 1, hu => simp at hu
    · have := hwf q (List.mem_of_mem_take hq)
      simp [Lit.wf, IntKind.min, IntKind.max, IntKind.bits, IntKind.signed] at this
      omega
    · simp [Go.ChangeShapes.lits]
theorem sized_words {H : Type} {P : Program} {ts : List TypeId} {ds : List (DataW H)} (h : (DataW.weightsEach P ts ds).all (· ≤ reachBytes) = true) {j t f0 f1 e : Nat} {fs : Array Field} {d0 : DataW H} {elems spare : List (DataW H)} (ht : ts[j]? = some t) (hd : ds[j]? = some (.agg [d0, .slice elems spare]))
    (hs : P.underlying t = some (.struct fs)) (hf : fs.toList.map (·.type) = [f0, f1]) (hu : P.underlying f1 = some (.slice e)) (hb : P.bytesOf e = 8) : elems.length ≤ 17592186043904 := by
  have := List.all_eq_true.1 h _ (DataW.weights_mem_each ht hd ((elems.length + spare.length) * P.bytesOf e) (by simp [DataW.weights, hs, hf, hu, DataW.weightsEach]))
  rw [hb] at this
  have h2 : (elems.length + spare.length) * 8 ≤ reachBytes := by simpa using this
  have h3 : reachBytes = 140737488351232 := rfl
  omega
end Go.Proofs.Ytlghmadoogblcaa.OpenRow
end
section
namespace Go.Proofs.Ytlghmadoogblcaa.wordsJoins
open Go.ChangeShapes Go.WideShapes Go.ChangeAt Go.RowKit Go.Joins Go.Deep
open Go.ChangeMaps (open_string shut_string)
set_option linter.unusedVariables false
theorem own : ownKnob Try.prog.godebug = none := by kernel_rfl
theorem laidOut : laidOutB Try.prog = true := by kernel_rfl
theorem open_agg_2 {H : Type} {enc : TypeId × Value → H} {P : Program} {w : World} {base : Nat} {spare : Nat → Bool} {held : Bool} {r : Reach} {b0 : Nat} {t : TypeId} {f0 f1 : Field} {v : Value} {d : DataW H} {p : List MemPlace} (hs : P.underlying t = some (.struct #[f0, f1])) (hone : oneCellFields P #[f0, f1] = true) (hC : P.cellsOf t = 2)
    (hv : Value.okWide P w r b0 t v) (h : DataW.Trod enc P w base spare held t v d p) :
    ∃ (v0 v1 : Value) (y0 y1 : DataW H × List MemPlace) (n : Nat), v = .agg #[v0, v1] ∧ d = .agg [y0.1, y1.1] ∧ DataW.trod enc P w base spare held n f0.type [v0] = some y0 ∧ DataW.trod enc P w base spare held n f1.type [v1] = some y1 := by
  obtain ⟨cs, rfl, hsz⟩ := okWide_struct hs hv
  obtain ⟨l⟩ := cs
  match l, hsz.trans hC with
  | [c0, c1], _ =>
    obtain ⟨fuel, hf⟩ := h
    obtain ⟨xs, n, _, hx, _, hlen, hg⟩ := DataW.trod_struct hs hf
    obtain ⟨o0, k0⟩ := hone_of hone 0 f0 rfl
    obtain ⟨o1, k1⟩ := hone_of hone 1 f1 rfl
    match xs, hlen with
    | [y0, y1], _ =>
      simp only [Prod.mk.injEq] at hx
      exact ⟨c0, c1, y0, y1, n, rfl, by simpa using hx.1, by simpa [Value.cells, o0, k0] using hg 0 f0 rfl, by simpa [Value.cells, o1, k1] using hg 1 f1 rfl⟩
set_option maxRecDepth 100000 in
theorem lifted (os : Os) (started : os.Started) (H : Type) (enc : TypeId × Value → H) :
    ReturnsInHanded {} Try.checked os 10 .any (Rows.wordsJoinsSpec.pre6 enc Try.prog Try.f10 Rows.wordsJoinsRow.domain false) (Rows.wordsJoinsSpec.post enc Try.prog Try.f10 false true false false) := by
  refine returnsInHanded_of_change_sized (C := Try.checked) own started (by kernel_rfl) Try.func10
    (ChangeSpec.witness6 (enc := enc) (C := Try.checked) false ⟨#[], #[.agg #[.int .i64 0, .slice none 0 0], .agg #[.int .i64 0, .slice none 0 0]], []⟩ 8 (by kernel_rfl) (by kernel_rfl) (by kernel_rfl) (by kernel_rfl)) ?_
  intro W base args ds gs before hval0 hW hcnd hsz0 _
  have hsz : (DataW.weightsEach Try.prog (Try.f10.params.toList ++ Rows.wordsJoinsSpec.plain.varTypes Try.prog) (ds ++ gs)).all (· ≤ reachBytes) = true := hsz0
  have hval : ∀ (j : Nat) t v, Try.f10.params[j]? = some t → args[j]? = some v → Value.okWide Try.prog W .any base t v := hval0
  have hW' := hW
  obtain ⟨p, q, hA0, hV, rfl, hfz, hnd⟩ := hW
  have hA : DataW.TrodAll enc Try.prog W 0 (fun _ => true) true Try.f10.params.toList args.toList ds p := hA0
  rw [Try.params10] at hA hval hsz
  obtain ⟨v0, vs0, d0, ds0, p0, q0, hargs, rfl, rfl, h0, r0⟩ := trodAll_cons hA
  obtain ⟨v1, vs1, d1, ds1, p1, q1, rfl, rfl, rfl, h1, r1⟩ := trodAll_cons r0
  obtain ⟨rfl, rfl, rfl⟩ := trodAll_nil r1
  obtain rfl : args = #[v0, v1] := by cases args; simp_all
  obtain ⟨rfl, rfl⟩ := trodVars_none hV
  have k0 := h0
  have lt0 : ∀ x ∈ p0, x.block < W.heap.size := by obtain ⟨m, hm⟩ := k0; exact DataW.trod_lt m _ _ _ hm
  obtain ⟨c0_0, c0_1, x0_0, x0_1, m0, rfl, dd0, g0_0, g0_1⟩ := open_agg_2 Try.underlying31 (by kernel_rfl) (by kernel_rfl) (hval 0 31 v0 rfl rfl) h0
  obtain ⟨a0_0, e0_0, _, w0_0⟩ := DataW.trod_int Try.underlying3 g0_0
  obtain rfl : c0_0 = .int .i64 a0_0 := by simpa using e0_0
  have k1 := h1
  have lt1 : ∀ x ∈ p1, x.block < W.heap.size := by obtain ⟨m, hm⟩ := k1; exact DataW.trod_lt m _ _ _ hm
  obtain ⟨c1_0, c1_1, x1_0, x1_1, m1, rfl, dd1, g1_0, g1_1⟩ := open_agg_2 Try.underlying31 (by kernel_rfl) (by kernel_rfl) (hval 1 31 v1 rfl rfl) h1
  obtain ⟨a1_0, e1_0, _, w1_0⟩ := DataW.trod_int Try.underlying3 g1_0
  obtain rfl : c1_0 = .int .i64 a1_0 := by simpa using e1_0
  clear hA0 hval0 hsz0
  have done : ∀ W', Below W.heap.size W W' → ∃ r, (Ending.returned (.bool true)) = .returned r ∧ Rows.wordsJoinsSpec.post enc Try.prog Try.f10 false true false false W #[.agg #[.int .i64 a0_0, c0_1], .agg #[.int .i64 a1_0, c1_1]] r W' := fun W' bel =>
    ⟨_, rfl, _, _, _, [], _, [], hW', trodAll_mk1 (shut_bool Try.underlying4 _), (trodAll_cons_mk (Below.trod laidOut (by kernel_rfl) (of_decide_eq_true (by kernel_rfl)) k0 bel lt0) (trodAll_cons_mk (Below.trod laidOut (by kernel_rfl) (of_decide_eq_true (by kernel_rfl)) k1 bel lt1) trodAll_mk0)), rfl, bel.frame _, fun h => by cases h⟩
  obtain ⟨A0, u0, l0, rfl, hc0, hr0, hu0, hx0⟩ := OpenRow.open_words Try.underlying29 Try.underlying22 (by kernel_rfl) g0_1
  obtain ⟨A1, u1, l1, rfl, hc1, hr1, hu1, hx1⟩ := OpenRow.open_words Try.underlying29 Try.underlying22 (by kernel_rfl) g1_1
  have hm0 : l0.length ≤ 17592186043904 := by
    rcases hx0 with h_ | ⟨el, sp, hel, hx⟩
    · omega
    · rw [← hel]; exact OpenRow.sized_words hsz (j := 0) (d0 := x0_0.1) (elems := el) (spare := sp) rfl (by subst dd0; exact congrArg (fun q => some (Go.DataW.agg [x0_0.1, q])) hx) Try.underlying31 rfl Try.underlying29 (by kernel_rfl)
  have hm1 : l1.length ≤ 17592186043904 := by
    rcases hx1 with h_ | ⟨el, sp, hel, hx⟩
    · omega
    · rw [← hel]; exact OpenRow.sized_words hsz (j := 1) (d0 := x1_0.1) (elems := el) (spare := sp) rfl (by subst dd1; exact congrArg (fun q => some (Go.DataW.agg [x1_0.1, q])) hx) Try.underlying31 rfl Try.underlying29 (by kernel_rfl)
  refine (JoinsWalk.law a0_0 a1_0 A0 A1 u0 u1 l0 l1 W hr0 hc0 hm0 hr1 hc1 hm1 hu0 hu1).mono fun e W' ⟨he, bel⟩ => ?_
  subst he
  exact done W' bel
theorem over : Rows.wordsJoinsRow.holds Try.pinned (OpenSpec.ofChange Rows.wordsJoinsSpec) :=
  OpenClaim.holds_of_wide 10 Try.f10 rfl rfl rfl rfl rfl rfl rfl ⟨rfl, rfl, rfl, rfl, rfl⟩ rfl rfl rfl rfl rfl (by kernel_rfl) Try.func10 (by kernel_rfl)
    (of_decide_eq_true (by kernel_rfl)) (by unfold Func.isWrapper; first | (rw [if_pos (by decide +kernel)]; kernel_rfl) | (rw [if_neg (by decide +kernel)]; exact ⟨rfl, rfl⟩))
    (fun os started H enc _ => lifted os started H enc)
theorem proved : Rows.WordsJoinsSaid := over
end Go.Proofs.Ytlghmadoogblcaa.wordsJoins
namespace Go.Proofs.Ytlghmadoogblcaa
theorem wordsJoins_holds : Rows.WordsJoinsSaid := wordsJoins.proved
#print axioms wordsJoins_holds
end Go.Proofs.Ytlghmadoogblcaa
end
