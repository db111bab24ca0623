/- What the row of this claim leans on, part 4. -/
import Derived.Test.YtlghmadoogblcaaKIs3
section
namespace Go.Proofs.Ytlghmadoogblcaa.PW
open Go.RowKit Go.Proofs.YtlghmadoogblcaaW.PrintWords Go.Proofs.YtlghmadoogblcaaW.PrintLast Go.Proofs.YtlghmadoogblcaaW.PrintMore
attribute [local go_sem] max2_int min2_int max_two min_two max_three min_three max_four min_four   -- for this text's walks alone
set_option linter.unusedVariables false
set_option linter.unusedSimpArgs false
def words_Not.l0 : Nat → Int → Int → Int → List Int → Option (Int × List Int × Int)
  | 0, _, _, _, _ => none
  | k + 1, x14, x15, x152000, x152001 => if x15 < x14 then (if 0 ≤ x15 then (if x15 < (x152001.length : Int) then (words_Not.l0 k x14 (wrap64 (x15 + 1)) x152000 (x152001.set (x15 : Int).toNat (Go.bits .xor .u64 (rd x152001 x15) 18446744073709551615))) else (none)) else (none)) else (if (x152001.length : Int) > 0 then (if 0 ≤ (wrap64 ((x152001.length : Int) - 1)) then (if (wrap64 ((x152001.length : Int) - 1)) < (x152001.length : Int) then ((words_last.f x152000).bind fun t155 => (some (x152000, (x152001.set ((wrap64 ((x152001.length : Int) - 1)) : Int).toNat (Go.bits .and .u64 (rd x152001 (wrap64 ((x152001.length : Int) - 1))) t155)), 0))) else (none)) else (none)) else (some (x152000, x152001, 0)))
def words_Not.f (k : Nat) (a0_0 : Int) (l0_1 : List Int) : Option (Int × List Int × Int) := (words_Valid.f a0_0 l0_1).bind fun t146 => (if t146 = true then ((words_clone.f a0_0 l0_1).bind fun bt147 => (words_Not.l0 k (bt147.2.length : Int) 0 bt147.1 bt147.2)) else (some (0, ([] : List Int), 20)))
def words_Not.T10 : Bool × List (List Nat × List Nat) := (true, [([], []), ([0], [0]), ([], []), ([2], [2]), ([3], [3]), ([4], [4]), ([1, 5], [1, 5]), ([6], [6]), ([], []), ([8], [8]), ([9], [9]), ([7, 10], [7, 10]), ([1, 5, 0, 1, 2, 3, 4, 5, 6, 7, 8, 9, 10, 11], [1, 5]), ([12, 11, 10, 0, 1, 2, 3, 4, 5, 6, 7, 8, 9, 10, 11], [11, 12])])
def words_Not.B10 : List Nat := [0, 1, 0, 4, 12, 28, 63, 127, 0, 256, 768, 2047, 4095, 8191]
theorem words_Not.tab10 : rtab .any (opsOf Try.f39 10) = words_Not.T10 := by kernel_rfl
theorem words_Not.bits10 : waitsOk words_Not.T10.2 words_Not.B10 = true := by kernel_rfl
set_option maxHeartbeats 8000000 in
set_option maxRecDepth 100000 in
theorem words_Not.calls (k : Nat) (a0_0 : Int) (A0_1 : Option Addr) (c0_1 : Nat) (l0_1 : List Int) (r1 : Int) (r2 : List Int) (r3 : Int) (w : World) (hr0_1 : Kd.C (Kd.int .u64) w A0_1 l0_1.length l0_1) (hc0_1 : l0_1.length ≤ c0_1) (h : words_Not.f k a0_0 l0_1 = some (r1, r2, r3)) :
    Calls Try.prog 39 #[.agg #[.int .i64 a0_0, .slice A0_1 l0_1.length c0_1]] w fun e w' => ∃ v1_ : Value, e = .returned (.tuple #[.agg #[.int .i64 r1, v1_], .int .i64 r3]) ∧ Kd.R (Kd.int .u64) 22 w' w.heap.size (fun _ => True) v1_ r2 ∧ Below w.heap.size w w' := by
  have hu31 := Try.underlying31
  have HR0_1 := Aside0.mk hr0_1
  have HC0_1 := Aside0.mk hc0_1
  clear hr0_1 hc0_1
  have HB := Aside0.mk (Below.refl w.heap.size w)
  have H : ((words_Valid.f a0_0 l0_1).bind fun t146 => (if t146 = true then ((words_clone.f a0_0 l0_1).bind fun bt147 => (words_Not.l0 k (bt147.2.length : Int) 0 bt147.1 bt147.2)) else (some (0, ([] : List Int), 20)))) = some (r1, r2, r3) := h
  clear h
  replace H := Option.bind_eq_some_iff.mp H
  obtain ⟨t146, A20, H⟩ := H
  replace H : (if t146 = true then ((words_clone.f a0_0 l0_1).bind fun bt147 => (words_Not.l0 k (bt147.2.length : Int) 0 bt147.1 bt147.2)) else (some (0, ([] : List Int), 20))) = some (r1, r2, r3) := H
  have A2 := Aside0.mk A20
  clear A20
  by_cases c3 : t146 = true
  · subst c3
    have H1 : ((words_clone.f a0_0 l0_1).bind fun bt147 => (words_Not.l0 k (bt147.2.length : Int) 0 bt147.1 bt147.2)) = some (r1, r2, r3) := by rw [if_pos rfl] at H; exact H
    clear H
    have H := H1
    clear H1
    replace H := Option.bind_eq_some_iff.mp H
    obtain ⟨⟨t147, t148⟩, A40, H⟩ := H
    replace H : (words_Not.l0 k (t148.length : Int) 0 t147 t148) = some (r1, r2, r3) := H
    have A4 := Aside0.mk A40
    clear A40
    have H' := Aside0.mk H
    clear H
    go_enter Try.func39, Try.ntmps39
    go_wp2_with (first | ((with_reducible refine gate_dst (N := 1) rfl ?_); refine box_event ?hg (N := 1) ?hd (cs := #[.int .i64 a0_0, .slice A0_1 l0_1.length c0_1]) (t := 31) ?hr ?_; (case hd => rfl); (case hg => rfl); (case hr => first | (go_simp; done) | (go_simp; rfl)); intro gb144 hg w5 hbox hb; have n0_ := Aside0.mk (below_step (by repeat (first | (with_reducible first | exact HB.out | apply below_alloc | apply pw_below_drewN | apply below_drew1) | exact HB.out)) hb); have n1_ := Aside0.mk (hbox); have n2_ := Aside0.mk ((by rw [hg]; exact (below_size (by repeat (first | (with_reducible first | exact HB.out | apply below_alloc | apply pw_below_drewN | apply below_drew1) | exact HB.out))) : w.heap.size ≤ gb144)); have n3_ := Aside0.mk ((by rw [hg]; exact (below_size (by repeat (first | (with_reducible first | exact HB.out | apply below_alloc | apply pw_below_drewN | apply below_drew1) | exact HB.out))) : w.heap.size ≤ gb144)); clear HB; have HB := n0_; have BK144 := n1_; have GW144 := n2_; have GE144 := n3_; clear n0_ n1_ n2_ n3_; clear hb hbox hg) | ((with_reducible refine gate_dst (N := 2) rfl ?_); refine box_event ?hg (N := 2) ?hd (cs := #[.int .i64 0, .slice none 0 0]) (t := 31) ?hr ?_; (case hd => rfl); (case hg => rfl); (case hr => first | (go_simp; done) | (go_simp; rfl)); intro gb145 hg w6 hbox hb; have n0_ := Aside0.mk (blk_below BK144.out hb); have n1_ := Aside0.mk (below_step (by repeat (first | (with_reducible first | exact HB.out | apply below_alloc | apply pw_below_drewN | apply below_drew1 | refine below_set ?_ GE144.out) | exact HB.out)) hb); have n2_ := Aside0.mk (hbox); have n3_ := Aside0.mk ((by rw [hg]; exact (below_size (by repeat (first | (with_reducible first | exact HB.out | apply below_alloc | apply pw_below_drewN | apply below_drew1 | refine below_set ?_ GE144.out) | exact HB.out))) : w.heap.size ≤ gb145)); have n4_ := Aside0.mk ((by rw [hg]; exact (below_size (by repeat (first | (with_reducible first | exact HB.out | apply below_alloc | apply pw_below_drewN | apply below_drew1 | refine below_set ?_ GE144.out) | exact HB.out))) : w.heap.size ≤ gb145)); have n5_ := Aside0.mk ((by rw [hg]; exact Nat.ne_of_lt (blk_lt BK144.out) : gb144 ≠ gb145)); have n6_ := Aside0.mk ((by rw [hg]; exact Nat.ne_of_gt (blk_lt BK144.out) : gb145 ≠ gb144)); clear BK144; clear HB; have BK144 := n0_; have HB := n1_; have BK145 := n2_; have GW145 := n3_; have GE145 := n4_; have NB144_145 := n5_; have NB145_144 := n6_; clear n0_ n1_ n2_ n3_ n4_ n5_ n6_; clear hb hbox hg; have hnb7 := NB144_145.out; have hnc7 := NB145_144.out; have hcz8_0 : w6.cell? ⟨gb144, 0, none⟩ = some (.int .i64 a0_0) := (blk_cell BK144.out 0).trans rfl; have hcz8_1 : w6.cell? ⟨gb144, 1, none⟩ = some (.slice A0_1 l0_1.length c0_1) := (blk_cell BK144.out 1).trans rfl; have hfz8_0 := blk_frozen BK144.out 0; have hfz8_1 := blk_frozen BK144.out 1) | ((with_reducible refine gate_callee (f := 22) rfl ?_); refine goesL_ (some 7) rfl rfl Try.func22 (by kernel_rfl) rfl #[.agg #[.int .i64 a0_0, .slice A0_1 l0_1.length c0_1]] rfl (by (try simp only [List.map_toArray, List.map_cons, List.map_nil]); first | done | rfl | (simp only [List.length_drop, List.length_take]; rfl)) ?_; (with_reducible refine (words_Valid.calls a0_0 _ _ l0_1 true _ ?side1 ?side2 A2.out).mono ?_); (case side1 => repeat (first | exact (Kd.C_below HR0_1.out HB.out) | (with_reducible refine Kd.C_alloc ?_ _) | (with_reducible refine Kd.C_drewN ?_ _) | (with_reducible refine Kd.C_drew ?_))); (case side2 => exact HC0_1.out); rintro e w9 ⟨rfl, hb⟩; refine ⟨_, rfl, ?_⟩; have n0_ := Aside0.mk (blk_below BK144.out hb); have n1_ := Aside0.mk (blk_below BK145.out hb); have n2_ := Aside0.mk (below_step (by repeat (first | (with_reducible first | exact HB.out | apply below_alloc | apply pw_below_drewN | apply below_drew1 | refine below_set ?_ GE144.out | refine below_set ?_ GE145.out) | exact HB.out)) hb); clear BK144; clear BK145; clear HB; have BK144 := n0_; have BK145 := n1_; have HB := n2_; clear n0_ n1_ n2_; (try clear hb); (try clear hb2); (try clear hk); (try clear hi); have hcz10_0 : w9.cell? ⟨gb144, 0, none⟩ = some (.int .i64 a0_0) := (blk_cell BK144.out 0).trans rfl; have hcz10_1 : w9.cell? ⟨gb144, 1, none⟩ = some (.slice A0_1 l0_1.length c0_1) := (blk_cell BK144.out 1).trans rfl; have hfz10_0 := blk_frozen BK144.out 0; have hfz10_1 := blk_frozen BK144.out 1) | ((with_reducible refine gate_callee (f := 53) rfl ?_); refine goesL_ (some 11) rfl rfl Try.func53 (by kernel_rfl) rfl #[.agg #[.int .i64 a0_0, .slice A0_1 l0_1.length c0_1]] rfl (by (try simp only [List.map_toArray, List.map_cons, List.map_nil]); first | done | rfl | (simp only [List.length_drop, List.length_take]; rfl)) ?_; (with_reducible refine (words_clone.calls a0_0 _ _ l0_1 t147 t148 _ ?side1 ?side2 A4.out).mono ?_); (case side1 => repeat (first | exact (Kd.C_below HR0_1.out HB.out) | (with_reducible refine Kd.C_alloc ?_ _) | (with_reducible refine Kd.C_drewN ?_ _) | (with_reducible refine Kd.C_drew ?_))); (case side2 => exact HC0_1.out); rintro e w11 ⟨v149, rfl, ho0, hb⟩; refine ⟨_, rfl, ?_⟩; have n0_ := Aside0.mk (Kd.R_lower ho0 (below_size (by repeat (first | (with_reducible first | exact HB.out | apply below_alloc | apply pw_below_drewN | apply below_drew1 | refine below_set ?_ GE144.out | refine below_set ?_ GE145.out) | exact HB.out)))); have n1_ := Aside0.mk (blk_below BK144.out hb); have n2_ := Aside0.mk (blk_below BK145.out hb); have n3_ := Aside0.mk (below_step (by repeat (first | (with_reducible first | exact HB.out | apply below_alloc | apply pw_below_drewN | apply below_drew1 | refine below_set ?_ GE144.out | refine below_set ?_ GE145.out) | exact HB.out)) hb); clear BK144; clear BK145; clear HB; have HO150 := n0_; have BK144 := n1_; have BK145 := n2_; have HB := n3_; clear n0_ n1_ n2_ n3_; (try clear hb); (try clear hb2); (try clear hk); (try clear hi); (try clear ho0)) | ((with_reducible refine gate_dst (N := 4) rfl ?_); refine box_event ?hg (N := 4) ?hd (cs := #[.int .i64 0, .slice none 0 0]) (t := 31) ?hr ?_; (case hd => rfl); (case hg => rfl); (case hr => first | (go_simp; done) | (go_simp; rfl)); intro gb151 hg w12 hbox hb; have n0_ := Aside0.mk (Kd.R_below HO150.out hb); have n1_ := Aside0.mk (blk_below BK144.out hb); have n2_ := Aside0.mk (blk_below BK145.out hb); have n3_ := Aside0.mk (below_step (by repeat (first | (with_reducible first | exact HB.out | apply below_alloc | apply pw_below_drewN | apply below_drew1 | refine below_set ?_ GE144.out | refine below_set ?_ GE145.out) | exact HB.out)) hb); have n4_ := Aside0.mk (hbox); have n5_ := Aside0.mk ((by rw [hg]; exact (below_size (by repeat (first | (with_reducible first | exact HB.out | apply below_alloc | apply pw_below_drewN | apply below_drew1 | refine below_set ?_ GE144.out | refine below_set ?_ GE145.out) | exact HB.out))) : w.heap.size ≤ gb151)); have n6_ := Aside0.mk ((by rw [hg]; exact (below_size (by repeat (first | (with_reducible first | exact HB.out | apply below_alloc | apply pw_below_drewN | apply below_drew1 | refine below_set ?_ GE144.out | refine below_set ?_ GE145.out) | exact HB.out))) : w.heap.size ≤ gb151)); have n7_ := Aside0.mk ((by rw [hg]; exact Nat.ne_of_lt (blk_lt BK144.out) : gb144 ≠ gb151)); have n8_ := Aside0.mk ((by rw [hg]; exact Nat.ne_of_gt (blk_lt BK144.out) : gb151 ≠ gb144)); have n9_ := Aside0.mk ((by rw [hg]; exact Nat.ne_of_lt (blk_lt BK145.out) : gb145 ≠ gb151)); have n10_ := Aside0.mk ((by rw [hg]; exact Nat.ne_of_gt (blk_lt BK145.out) : gb151 ≠ gb145)); clear HO150; clear BK144; clear BK145; clear HB; have HO150 := n0_; have BK144 := n1_; have BK145 := n2_; have HB := n3_; have BK151 := n4_; have GW151 := n5_; have GE151 := n6_; have NB144_151 := n7_; have NB151_144 := n8_; have NB145_151 := n9_; have NB151_145 := n10_; clear n0_ n1_ n2_ n3_ n4_ n5_ n6_ n7_ n8_ n9_ n10_; clear hb hbox hg; have hnb13 := NB151_144.out; have hnc13 := NB144_151.out; have hnb14 := NB151_145.out; have hnc14 := NB145_151.out; have hcz15_0 : w12.cell? ⟨gb151, 0, none⟩ = some (.int .i64 0) := (blk_cell BK151.out 0).trans rfl; have hcz15_1 : w12.cell? ⟨gb151, 1, none⟩ = some (.slice none 0 0) := (blk_cell BK151.out 1).trans rfl; have hfz15_0 := blk_frozen BK151.out 0; have hfz15_1 := blk_frozen BK151.out 1; obtain ⟨Ao16, co16, eo16⟩ := Kd.R_slice HO150.out; subst eo16))
    go_loopg [15] k (fun kq v15 w' => ∃ (x15_1 : Int) (x152001_1 : List Int) (u152001 : Value), v15 = .int .i64 x15_1 ∧ Aside0 (words_Not.l0 kq (t148.length : Int) x15_1 t147 x152001_1 = some (r1, r2, r3)) ∧ Aside0 (kq ≤ k) ∧ Aside0 (Kd.R (Kd.int .u64) 22 w' w.heap.size (fun _ => True) u152001 x152001_1) ∧ Aside0 (w'.heap[gb144]? = some (.cells #[.int .i64 a0_0, (.slice A0_1 l0_1.length c0_1)] 31 (0, 0))) ∧ Aside0 (w'.heap[gb145]? = some (.cells #[.int .i64 0, (.slice none 0 0)] 31 (0, 0))) ∧ Aside0 (w'.heap[gb151]? = some (.cells #[.int .i64 t147, u152001] 31 (0, 0))) ∧ Aside0 (Below w.heap.size w w'))
    case atStart => exact ⟨(0), (t148), (.slice Ao16 t148.length co16), (by first | rfl | (simp; done) | (simp [*]; done) | (simp [wrap64]; done)), H', ⟨Nat.le_refl _⟩, ⟨by (with_reducible repeat (first | apply Kd.R_alloc | apply Kd.R_drewN | apply Kd.R_drew)); exact Kd.R_mono (Kd.R_far (p := ⟨gb151, 1, none⟩) (Kd.R_far (p := ⟨gb151, 0, none⟩) (Kd.R_types HO150.out BK151.out (by decide)) (fun _ hk => hk.2) (.int .i64 t147)) (fun _ hk => hk.2) (.slice Ao16 t148.length co16)) (fun _ hk => trivial)⟩, ⟨by (with_reducible repeat (first | refine blk_drewN ?_ _ | refine blk_drew ?_ | refine blk_alloc ?_ _)); refine blk_far ?_ NB144_151.out _; (with_reducible repeat (first | refine blk_drewN ?_ _ | refine blk_drew ?_ | refine blk_alloc ?_ _)); refine blk_far ?_ NB144_151.out _; (with_reducible repeat (first | refine blk_drewN ?_ _ | refine blk_drew ?_ | refine blk_alloc ?_ _)); exact BK144.out⟩, ⟨by (with_reducible repeat (first | refine blk_drewN ?_ _ | refine blk_drew ?_ | refine blk_alloc ?_ _)); refine blk_far ?_ NB145_151.out _; (with_reducible repeat (first | refine blk_drewN ?_ _ | refine blk_drew ?_ | refine blk_alloc ?_ _)); refine blk_far ?_ NB145_151.out _; (with_reducible repeat (first | refine blk_drewN ?_ _ | refine blk_drew ?_ | refine blk_alloc ?_ _)); exact BK145.out⟩, ⟨by (with_reducible repeat (first | refine blk_drewN ?_ _ | refine blk_drew ?_ | refine blk_alloc ?_ _)); refine blk_put (cs := #[.int .i64 t147, .slice none 0 0]) ?_ 1 _ rfl; (with_reducible repeat (first | refine blk_drewN ?_ _ | refine blk_drew ?_ | refine blk_alloc ?_ _)); refine blk_put (cs := #[.int .i64 0, .slice none 0 0]) ?_ 0 _ rfl; (with_reducible repeat (first | refine blk_drewN ?_ _ | refine blk_drew ?_ | refine blk_alloc ?_ _)); exact BK151.out⟩, ⟨by repeat (first | (with_reducible first | exact HB.out | apply below_alloc | apply pw_below_drewN | apply below_drew1 | refine below_set ?_ GE144.out | refine below_set ?_ GE145.out | refine below_set ?_ GE151.out) | exact HB.out)⟩⟩
    case round =>
      clear H'
      try clear c1
      try clear c2
      try clear p2
      try clear c3
      try clear c5
      try clear c7
      try clear c13
      try clear c14
      try clear hcz10_0
      try clear hcz10_1
      try clear hcz15_0
      try clear hcz15_1
      try clear hcz8_0
      try clear hcz8_1
      try clear hfz10_0
      try clear hfz10_1
      try clear hfz15_0
      try clear hfz15_1
      try clear hfz8_0
      try clear hfz8_1
      obtain ⟨x15_1, x152001_1, u152001, rfl, HA, HK1, HO_152001, BK144, BK145, BK151, HB⟩ := hrel
      cases gk with
      | zero => exact absurd HA.out (by simp [words_Not.l0])
      | succ k1 =>
        have H := HA.out
        clear HA
        simp only [words_Not.l0] at H
        by_cases c17 : x15_1 < (t148.length : Int)
        · rw [if_pos c17] at H
          have c17b0 : decide (x15_1 < (t148.length : Int)) = true := decide_eq_true c17
          clear c17
          by_cases c18 : 0 ≤ x15_1
          · rw [if_pos c18] at H
            have c18b0 : decide (0 ≤ x15_1) = true := decide_eq_true c18
            clear c18
            by_cases c19 : x15_1 < (x152001_1.length : Int)
            · rw [if_pos c19] at H
              have c19b0 : decide (x15_1 < (x152001_1.length : Int)) = true := decide_eq_true c19
              clear c19
              obtain ⟨y153, hy153⟩ : ∃ y_ : List Int, y_ = (x152001_1.set (x15_1 : Int).toNat (Go.bits .xor .u64 (rd x152001_1 x15_1) 18446744073709551615)) := ⟨_, rfl⟩
              replace H : (words_Not.l0 k1 (t148.length : Int) (wrap64 (x15_1 + 1)) t147 y153) = some (r1, r2, r3) := by first | (rw [hy153]; with_reducible exact H) | (have H2_ := (Option.bind_some _ _).symm.trans H; rw [hy153]; with_reducible exact H2_) | (have H2_ := (Option.bind_some _ _).symm.trans H; with_reducible exact H2_) | with_reducible exact H | (rw [hy153]; exact H) | exact H
              have Ny153 := Aside0.mk hy153
              clear hy153
              have H' := Aside0.mk H
              clear H
              have hnb21 := NB151_144.out
              have hnc21 := NB144_151.out
              have hnb22 := NB151_145.out
              have hnc22 := NB145_151.out
              have hcz23_0 : wr.cell? ⟨gb151, 0, none⟩ = some (.int .i64 t147) := (blk_cell BK151.out 0).trans rfl
              have hcz23_1 : wr.cell? ⟨gb151, 1, none⟩ = some (u152001) := (blk_cell BK151.out 1).trans rfl
              have hfz23_0 := blk_frozen BK151.out 0
              have hfz23_1 := blk_frozen BK151.out 1
              obtain ⟨Ao24, co24, eo24⟩ := Kd.R_slice HO_152001.out
              subst eo24
              have p152 : 0 ≤ (x15_1 : Int) := of_decide_eq_true (by first | (with_reducible assumption) | assumption)
              have q152 : x15_1 < (x152001_1.length : Int) := of_decide_eq_true (by first | (with_reducible assumption) | assumption)
              obtain ⟨ad152, e152, hx152_0⟩ := Kd.at_int (Kd.R_reads' HO_152001.out).2.2 x15_1 p152 q152
              cases e152
              replace p152 := eq_true p152
              replace q152 := eq_true q152
              have p20 : 0 ≤ (x15_1 : Int) := of_decide_eq_true (by first | (with_reducible assumption) | assumption)
              have q20 : (x15_1 : Int) < ((x152001_1.length : Int) : Int) := of_decide_eq_true (by first | (with_reducible assumption) | assumption)
              obtain ⟨go20, co20, eo20, gb20, gl20, cl20, HG20⟩ := Kd.R_form HO_152001.out (by omega)
              (first | cases eo20 | (injection eo20 with ea_ en_ ec_; (first | subst ea_ | (injection ea_ with ea_; subst ea_)); subst ec_; clear en_))
              have GB20 := Aside0.mk gb20
              have GG20 := Aside0.mk HG20
              clear gb20 gl20 HG20
              (first | simp only [add_plain] at hx152_0 | skip)
              obtain ⟨hx20_0, hf20_0⟩ := Kd.R_celln 0 HO_152001.out (x15_1 : Int) p20 q20
              replace p20 := eq_true p20
              replace q20 := eq_true q20
              have HP25 := Kd.R_putg HO_152001.out (x15_1 : Int) (Go.bits .xor .u64 (rd x152001_1 x15_1) 18446744073709551615)
              go_wp2_with (first | ((with_reducible refine gate_store (t := 22) (p := 24) rfl ?_); refine store_event (t := 22) (p := 24) (v := ?vo_w26) (w1 := (wr.setCell ⟨go20, (x15_1 : Int).toNat, none⟩ (.int .u64 (Go.bits .xor .u64 (rd x152001_1 x15_1) 18446744073709551615)))) ?hg ?ho ?hn ?hr ?_; (case ho => rfl); (case hg => rfl); (case hn => rfl); (case hr => first | (go_simp; done) | (go_simp; rfl)); intro w26 hw; have hg : wr.grownBy w26 (some go20) := (by rw [hw]; exact HP25.2); have hp_ : Kd.R (Kd.int .u64) 22 w26 w.heap.size (fun _ => True) (.slice (some ⟨go20, 0, none⟩) x152001_1.length co24) y153 := (by rw [hw, Ny153.out]; exact HP25.1); clear HP25; have n0_ := Aside0.mk (hp_); have n1_ := Aside0.mk (blk_grown (g := gb144) (o := .cells #[.int .i64 a0_0, .slice A0_1 l0_1.length c0_1] 31 (0, 0)) (by (with_reducible repeat (first | refine blk_drewN ?_ _ | refine blk_drew ?_ | refine blk_alloc ?_ _)); exact BK144.out) hg (Kd.R_ne HO_152001.out BK144.out (by decide))); have n2_ := Aside0.mk (blk_grown (g := gb145) (o := .cells #[.int .i64 0, .slice none 0 0] 31 (0, 0)) (by (with_reducible repeat (first | refine blk_drewN ?_ _ | refine blk_drew ?_ | refine blk_alloc ?_ _)); exact BK145.out) hg (Kd.R_ne HO_152001.out BK145.out (by decide))); have n3_ := Aside0.mk (blk_grown (g := gb151) (o := .cells #[.int .i64 t147, .slice (some ⟨go20, 0, none⟩) x152001_1.length co24] 31 (0, 0)) (by (with_reducible repeat (first | refine blk_drewN ?_ _ | refine blk_drew ?_ | refine blk_alloc ?_ _)); exact BK151.out) hg (Kd.R_ne HO_152001.out BK151.out (by decide))); have n4_ := Aside0.mk ((by rw [hw]; exact below_set (HB.out) GB20.out : Below w.heap.size w w26)); clear HO_152001; clear BK144; clear BK145; clear BK151; clear HB; have HO_152001 := n0_; have BK144 := n1_; have BK145 := n2_; have BK151 := n3_; have HB := n4_; clear n0_ n1_ n2_ n3_ n4_; clear hg hw hp_))
              go_roundg k1
              case measure => have := HK1.out; omega
              case rel => exact ⟨(wrap64 (x15_1 + 1)), (y153), (.slice (some ⟨go20, 0, none⟩) x152001_1.length co24), (by first | rfl | (simp; done) | (simp [*]; done) | (simp [wrap64]; done)), H', ⟨by have := HK1.out; omega⟩, ⟨by (with_reducible repeat (first | apply Kd.R_alloc | apply Kd.R_drewN | apply Kd.R_drew)); exact HO_152001.out⟩, ⟨by (with_reducible repeat (first | refine blk_drewN ?_ _ | refine blk_drew ?_ | refine blk_alloc ?_ _)); exact BK144.out⟩, ⟨by (with_reducible repeat (first | refine blk_drewN ?_ _ | refine blk_drew ?_ | refine blk_alloc ?_ _)); exact BK145.out⟩, ⟨by (with_reducible repeat (first | refine blk_drewN ?_ _ | refine blk_drew ?_ | refine blk_alloc ?_ _)); exact BK151.out⟩, ⟨by repeat (first | (with_reducible first | exact HB.out | apply below_alloc | apply pw_below_drewN | apply below_drew1 | refine below_set ?_ GE144.out | refine below_set ?_ GE145.out | refine below_set ?_ GE151.out) | exact HB.out)⟩⟩
            · rw [if_neg c19] at H
              exact absurd H (by simp)
          · rw [if_neg c18] at H
            exact absurd H (by simp)
        · rw [if_neg c17] at H
          have c17b0 : decide (x15_1 < (t148.length : Int)) = false := decide_eq_false c17
          clear c17
          by_cases c27 : (x152001_1.length : Int) > 0
          · rw [if_pos c27] at H
            have c27b0 : decide (0 < (x152001_1.length : Int)) = true := decide_eq_true c27
            have c27b1 : decide (0 < x152001_1.length) = true := decide_eq_true (by omega)
            clear c27
            obtain ⟨ji28, hji28⟩ : ∃ j_ : Int, (wrap64 ((x152001_1.length : Int) - 1)) = j_ := ⟨_, rfl⟩
            replace H : (if 0 ≤ (ji28) then (if (ji28) < (x152001_1.length : Int) then ((words_last.f t147).bind fun t155 => (some (t147, (x152001_1.set ((ji28) : Int).toNat (Go.bits .and .u64 (rd x152001_1 (ji28)) t155)), 0))) else (none)) else (none)) = some (r1, r2, r3) := by first | (rw [hji28] at H; exact H) | (simp only [hji28] at H ⊢; exact H)
            have hji28w : (IntKind.i64.wrap ((x152001_1.length : Int) - 1)) = ji28 := (i64_w _).trans hji28
            by_cases c29 : 0 ≤ (ji28)
            · rw [if_pos c29] at H
              have c29b0 : decide (0 ≤ (ji28)) = true := decide_eq_true c29
              clear c29
              by_cases c30 : (ji28) < (x152001_1.length : Int)
              · rw [if_pos c30] at H
                have c30b0 : decide ((ji28) < (x152001_1.length : Int)) = true := decide_eq_true c30
                clear c30
                replace H := Option.bind_eq_some_iff.mp H
                obtain ⟨t155, A310, H⟩ := H
                replace H : (some (t147, (x152001_1.set ((ji28) : Int).toNat (Go.bits .and .u64 (rd x152001_1 (ji28)) t155)), 0)) = some (r1, r2, r3) := H
                have A31 := Aside0.mk A310
                clear A310
                obtain ⟨y156, hy156⟩ : ∃ y_ : List Int, y_ = (x152001_1.set ((ji28) : Int).toNat (Go.bits .and .u64 (rd x152001_1 (ji28)) t155)) := ⟨_, rfl⟩
                replace H : (some (t147, y156, 0)) = some (r1, r2, r3) := by first | (rw [hy156]; with_reducible exact H) | (have H2_ := (Option.bind_some _ _).symm.trans H; rw [hy156]; with_reducible exact H2_) | (have H2_ := (Option.bind_some _ _).symm.trans H; with_reducible exact H2_) | with_reducible exact H | (rw [hy156]; exact H) | exact H
                have Ny156 := Aside0.mk hy156
                clear hy156
                simp only [Option.some.injEq, Prod.mk.injEq] at H
                obtain ⟨rfl, rfl, rfl⟩ := H
                have hnb33 := NB151_144.out
                have hnc33 := NB144_151.out
                have hnb34 := NB151_145.out
                have hnc34 := NB145_151.out
                have hcz35_0 : wr.cell? ⟨gb151, 0, none⟩ = some (.int .i64 t147) := (blk_cell BK151.out 0).trans rfl
                have hcz35_1 : wr.cell? ⟨gb151, 1, none⟩ = some (u152001) := (blk_cell BK151.out 1).trans rfl
                have hfz35_0 := blk_frozen BK151.out 0
                have hfz35_1 := blk_frozen BK151.out 1
                obtain ⟨Ao36, co36, eo36⟩ := Kd.R_slice HO_152001.out
                subst eo36
                try go_wp2
                have n0_ := Aside0.mk (Kd.R_drew HO_152001.out)
                have n1_ := Aside0.mk (blk_drew BK144.out)
                have n2_ := Aside0.mk (blk_drew BK145.out)
                have n3_ := Aside0.mk (blk_drew BK151.out)
                have n4_ := Aside0.mk (below_drew1 HB.out)
                clear HO_152001
                clear BK144
                clear BK145
                clear BK151
                clear HB
                have HO_152001 := n0_
                have BK144 := n1_
                have BK145 := n2_
                have BK151 := n3_
                have HB := n4_
                clear n0_ n1_ n2_ n3_ n4_
                have p154 : 0 ≤ ((ji28) : Int) := of_decide_eq_true (by first | (with_reducible assumption) | assumption)
                have q154 : (ji28) < (x152001_1.length : Int) := of_decide_eq_true (by first | (with_reducible assumption) | assumption)
                obtain ⟨ad154, e154, hx154_0⟩ := Kd.at_int (Kd.R_reads' HO_152001.out).2.2 (ji28) p154 q154
                cases e154
                replace p154 := eq_true p154
                replace q154 := eq_true q154
                refine start_ (n := 14) (S := fun w' => w'.cell? ⟨gb151, 0, none⟩ = some (.int .i64 t147) ∧ w'.cell? ⟨gb151, 1, none⟩ = some (.slice (some ad154) x152001_1.length co36) ∧ w'.cell? (ad154.add ((ji28)).toNat) = some (.int .u64 (rd x152001_1 (ji28)))) (ds := [13]) #[false, false, false, false, false, false, false, false, false, false, false, false, false, false] (by kernel_rfl) rfl rfl ⟨(blk_cell BK151.out 0).trans rfl, (blk_cell BK151.out 1).trans rfl, hx154_0⟩ (fun hHeld => ?_); refine with_tabW words_Not.tab10 words_Not.bits10 (fun HT_ HW_ => ?_)
                generalize wr.drew = w37 at HO_152001 BK144 BK145 BK151 HB hx154_0 hHeld ⊢
                refine pure_ (i := 0) (N := some 30) (v := ?_) (a' := ?_) #[true, false, false, false, false, false, false, false, false, false, false, false, false, false] rfl rfl (any_of HT_.out (by kernel_rfl)) (fun _ _ _ h => h) (Or.inl ⟨by rfl, ?_⟩) ?_ ?_
                rotate_left
                · intro w'
                  go_simp
                  with_reducible rfl
                rotate_left
                · simp only [Act.put, List.setIfInBounds_toArray, List.set_cons_zero, List.set_cons_succ, i64_w, i32_w]
                  rfl
                refine pure_ (i := 2) (N := some 32) (v := ?_) (a' := ?_) #[true, false, true, false, false, false, false, false, false, false, false, false, false, false] rfl rfl (any_of HT_.out (by kernel_rfl)) (fun _ _ _ h => h) (Or.inl ⟨by rfl, ?_⟩) ?_ ?_
                rotate_left
                · intro w'
                  go_simp
                  with_reducible rfl
                rotate_left
                · simp only [Act.put, List.setIfInBounds_toArray, List.set_cons_zero, List.set_cons_succ, i64_w, i32_w]
                  rfl
                refine pure_ (i := 8) (N := some 38) (v := ?_) (a' := ?_) #[true, false, true, false, false, false, false, false, true, false, false, false, false, false] rfl rfl (any_of HT_.out (by kernel_rfl)) (fun _ _ _ h => h) (Or.inl ⟨by rfl, ?_⟩) ?_ ?_
                rotate_left
                · intro w'
                  go_simp
                  with_reducible rfl
                rotate_left
                · simp only [Act.put, List.setIfInBounds_toArray, List.set_cons_zero, List.set_cons_succ, i64_w, i32_w]
                  rfl
                refine take_ (i := 1) (N := some 31) (v := ?_) (a' := ?_) #[true, true, true, false, false, false, false, false, true, false, false, false, false, false] rfl rfl (take_ofW HT_.out HW_.out (by kernel_rfl)) (fun _ _ _ h => h) (Or.inl ⟨by rfl, ?_⟩) hHeld ?_ ?_
                rotate_left
                · rintro w' ⟨s0, s1, s2⟩
                  go_simp
                  with_reducible rfl
                rotate_left
                · simp only [Act.put, List.setIfInBounds_toArray, List.set_cons_zero, List.set_cons_succ, i64_w, i32_w]
                  rfl
                refine take_ (i := 3) (N := some 33) (v := ?_) (a' := ?_) #[true, true, true, true, false, false, false, false, true, false, false, false, false, false] rfl rfl (take_ofW HT_.out HW_.out (by kernel_rfl)) (fun _ _ _ h => h) (Or.inl ⟨by rfl, ?_⟩) hHeld ?_ ?_
                rotate_left
                · rintro w' ⟨s0, s1, s2⟩
                  go_simp
                  with_reducible rfl
                rotate_left
                · simp only [Act.put, List.setIfInBounds_toArray, List.set_cons_zero, List.set_cons_succ, i64_w, i32_w]
                  rfl
                refine pure_ (i := 4) (N := some 34) (v := ?_) (a' := ?_) #[true, true, true, true, true, false, false, false, true, false, false, false, false, false] rfl rfl (any_of HT_.out (by kernel_rfl)) (fun _ _ _ h => h) (Or.inl ⟨by rfl, ?_⟩) ?_ ?_
                rotate_left
                · intro w'
                  go_simp
                  with_reducible rfl
                rotate_left
                · simp only [Act.put, List.setIfInBounds_toArray, List.set_cons_zero, List.set_cons_succ, i64_w, i32_w]
                  rfl
                refine pure_ (i := 5) (N := some 35) (v := ?_) (a' := ?_) #[true, true, true, true, true, true, false, false, true, false, false, false, false, false] rfl rfl (any_of HT_.out (by kernel_rfl)) (fun _ _ _ h => h) (Or.inl ⟨by rfl, ?_⟩) ?_ ?_
                rotate_left
                · intro w'
                  go_simp
                  with_reducible rfl
                rotate_left
                · simp only [Act.put, List.setIfInBounds_toArray, List.set_cons_zero, List.set_cons_succ, i64_w, i32_w]
                  rfl
                refine pure_ (i := 6) (N := some 36) (v := ?_) (a' := ?_) #[true, true, true, true, true, true, true, false, true, false, false, false, false, false] rfl rfl (any_of HT_.out (by kernel_rfl)) (fun _ _ _ h => h) (Or.inl ⟨by rfl, ?_⟩) ?_ ?_
                rotate_left
                · intro w'
                  go_simp
                  with_reducible rfl
                rotate_left
                · simp only [Act.put, List.setIfInBounds_toArray, List.set_cons_zero, List.set_cons_succ, i64_w, i32_w]
                  rfl
                refine take_ (i := 7) (N := some 37) (v := ?_) (a' := ?_) #[true, true, true, true, true, true, true, true, true, false, false, false, false, false] rfl rfl (take_ofW HT_.out HW_.out (by kernel_rfl)) (fun _ _ _ h => h) (Or.inl ⟨by rfl, ?_⟩) hHeld ?_ ?_
                rotate_left
                · rintro w' ⟨s0, s1, s2⟩
                  go_simp
                  with_reducible rfl
                rotate_left
                · simp only [Act.put, List.setIfInBounds_toArray, List.set_cons_zero, List.set_cons_succ, i64_w, i32_w]
                  rfl
                refine take_ (i := 9) (N := some 39) (v := ?_) (a' := ?_) #[true, true, true, true, true, true, true, true, true, true, false, false, false, false] rfl rfl (take_ofW HT_.out HW_.out (by kernel_rfl)) (fun _ _ _ h => h) (Or.inl ⟨by rfl, ?_⟩) hHeld ?_ ?_
                rotate_left
                · rintro w' ⟨s0, s1, s2⟩
                  go_simp
                  with_reducible rfl
                rotate_left
                · simp only [Act.put, List.setIfInBounds_toArray, List.set_cons_zero, List.set_cons_succ, i64_w, i32_w]
                  rfl
                refine one_ (i := 10) (N := some 40) #[true, true, true, true, true, true, true, true, true, true, true, false, false, false] rfl rfl (one_of HT_.out (by kernel_rfl)) (by decide) (fun K hK => ?_)
                refine goes_ Try.func50 (by kernel_rfl) rfl #[.int .i64 t147] (by rfl) rfl rfl (by (try simp only [List.map_toArray, List.map_cons, List.map_nil]); first | done | rfl | (simp only [List.length_drop, List.length_take]; rfl)) ?_
                with_reducible refine (words_last.calls t147 t155 _ A31.out).mono ?_
                rintro e w' ⟨rfl, ⟨nd, rfl⟩⟩
                refine ⟨_, rfl, ?_⟩
                have p32 : 0 ≤ ((ji28) : Int) := of_decide_eq_true (by first | (with_reducible assumption) | assumption)
                have q32 : ((ji28) : Int) < ((x152001_1.length : Int) : Int) := of_decide_eq_true (by first | (with_reducible assumption) | assumption)
                obtain ⟨go32, co32, eo32, gb32, gl32, cl32, HG32⟩ := Kd.R_form HO_152001.out (by omega)
                (first | cases eo32 | (injection eo32 with ea_ en_ ec_; (first | subst ea_ | (injection ea_ with ea_; subst ea_)); subst ec_; clear en_))
                have GB32 := Aside0.mk gb32
                have GG32 := Aside0.mk HG32
                clear gb32 gl32 HG32
                (first | simp only [add_plain] at hx154_0 | skip)
                obtain ⟨hx32_0, hf32_0⟩ := Kd.R_celln 0 HO_152001.out ((ji28) : Int) p32 q32
                replace p32 := eq_true p32
                replace q32 := eq_true q32
                have HP38 := Kd.R_putn HO_152001.out ((ji28) : Int) (Go.bits .and .u64 (rd x152001_1 (ji28)) t155)
                rw [← Ny156.out] at HP38
                have HQ38 := Aside0.mk HP38
                clear HP38
                refine hK.out _ _ ⟨(blk_cell BK151.out 0).trans rfl, (blk_cell BK151.out 1).trans rfl, hHeld.2.2⟩ (fun hHeld => ?_)
                clear hK K
                refine norm_ (a' := ?_) ?_ ?_
                rotate_left
                · show Act.put _ (some 40) _ = _
                  simp only [Act.put, List.setIfInBounds_toArray, List.set_cons_zero, List.set_cons_succ, i64_w, i32_w]
                  rfl
                refine pure_ (i := 11) (N := some 41) (v := ?_) (a' := ?_) #[true, true, true, true, true, true, true, true, true, true, true, true, false, false] rfl rfl (any_of HT_.out (by kernel_rfl)) (fun _ _ _ h => h) (Or.inl ⟨by rfl, ?_⟩) ?_ ?_
                rotate_left
                · intro w'
                  go_simp
                  with_reducible rfl
                rotate_left
                · simp only [Act.put, List.setIfInBounds_toArray, List.set_cons_zero, List.set_cons_succ, i64_w, i32_w]
                  rfl
                refine pure_ (i := 12) (N := some 42) (v := ?_) (a' := ?_) #[true, true, true, true, true, true, true, true, true, true, true, true, true, false] rfl rfl (any_of HT_.out (by kernel_rfl)) (fun _ _ _ h => h) (Or.inl ⟨by rfl, ?_⟩) ?_ ?_
                rotate_left
                · intro w'
                  go_simp
                  with_reducible rfl
                rotate_left
                · simp only [Act.put, List.setIfInBounds_toArray, List.set_cons_zero, List.set_cons_succ, i64_w, i32_w]
                  rfl
                refine last_ (i := 13) (N := none) #[true, true, true, true, true, true, true, true, true, true, true, true, true, true] rfl rfl (one_of HT_.out (by kernel_rfl)) (by decide) (fun K hK => ?_)
                refine skip_ (w1 := ?_) (by rfl) rfl ?_ ?_
                rotate_left
                · go_simp
                  rfl
                refine hK.out _ _ ?_
                clear hK K
                refine done_ (done_of HT_.out (by kernel_rfl)) ?_
                have n0_ : Aside0 (Kd.R (Kd.int .u64) 22 ((w37.drewN nd).setCell ⟨go32, ((ji28) : Int).toNat, none⟩ (.int .u64 (Go.bits .and .u64 (rd x152001_1 (ji28)) t155))) w.heap.size (fun _ => True) (.slice (some ⟨go32, 0, none⟩) x152001_1.length co36) y156) := ⟨Kd.R_drewN HQ38.out nd⟩
                have n1_ : Aside0 (((w37.drewN nd).setCell ⟨go32, ((ji28) : Int).toNat, none⟩ (.int .u64 (Go.bits .and .u64 (rd x152001_1 (ji28)) t155))).heap[gb144]? = some (.cells #[.int .i64 a0_0, .slice A0_1 l0_1.length c0_1] 31 (0, 0))) := ⟨by (with_reducible repeat (first | refine blk_drewN ?_ _ | refine blk_drew ?_ | refine blk_alloc ?_ _)); refine blk_far ?_ (by have h_ := Kd.R_ne HO_152001.out BK144.out (by decide); intro e_; exact h_ (by rw [e_]; rfl)) _; (with_reducible repeat (first | refine blk_drewN ?_ _ | refine blk_drew ?_ | refine blk_alloc ?_ _)); exact BK144.out⟩
                have n2_ : Aside0 (((w37.drewN nd).setCell ⟨go32, ((ji28) : Int).toNat, none⟩ (.int .u64 (Go.bits .and .u64 (rd x152001_1 (ji28)) t155))).heap[gb145]? = some (.cells #[.int .i64 0, .slice none 0 0] 31 (0, 0))) := ⟨by (with_reducible repeat (first | refine blk_drewN ?_ _ | refine blk_drew ?_ | refine blk_alloc ?_ _)); refine blk_far ?_ (by have h_ := Kd.R_ne HO_152001.out BK145.out (by decide); intro e_; exact h_ (by rw [e_]; rfl)) _; (with_reducible repeat (first | refine blk_drewN ?_ _ | refine blk_drew ?_ | refine blk_alloc ?_ _)); exact BK145.out⟩
                have n3_ : Aside0 (((w37.drewN nd).setCell ⟨go32, ((ji28) : Int).toNat, none⟩ (.int .u64 (Go.bits .and .u64 (rd x152001_1 (ji28)) t155))).heap[gb151]? = some (.cells #[.int .i64 t147, .slice (some ⟨go32, 0, none⟩) x152001_1.length co36] 31 (0, 0))) := ⟨by (with_reducible repeat (first | refine blk_drewN ?_ _ | refine blk_drew ?_ | refine blk_alloc ?_ _)); refine blk_far ?_ (by have h_ := Kd.R_ne HO_152001.out BK151.out (by decide); intro e_; exact h_ (by rw [e_]; rfl)) _; (with_reducible repeat (first | refine blk_drewN ?_ _ | refine blk_drew ?_ | refine blk_alloc ?_ _)); exact BK151.out⟩
                have n4_ : Aside0 (Below w.heap.size w ((w37.drewN nd).setCell ⟨go32, ((ji28) : Int).toNat, none⟩ (.int .u64 (Go.bits .and .u64 (rd x152001_1 (ji28)) t155)))) := ⟨by repeat (first | (with_reducible first | exact HB.out | apply below_alloc | apply pw_below_drewN | apply below_drew1 | refine below_set ?_ GB32.out | refine below_set ?_ GE144.out | refine below_set ?_ GE145.out | refine below_set ?_ GE151.out) | exact HB.out)⟩
                (try clear HO_152001)
                (try clear BK144)
                (try clear BK145)
                (try clear BK151)
                (try clear HB)
                generalize ((w37.drewN nd).setCell ⟨go32, ((ji28) : Int).toNat, none⟩ (.int .u64 (Go.bits .and .u64 (rd x152001_1 (ji28)) t155))) = w39 at n0_ n1_ n2_ n3_ n4_ ⊢
                have HO_152001 := n0_
                have BK144 := n1_
                have BK145 := n2_
                have BK151 := n3_
                have HB := n4_
                clear n0_ n1_ n2_ n3_ n4_
                have hcz40_0 : w39.cell? ⟨gb151, 0, none⟩ = some (.int .i64 t147) := (blk_cell BK151.out 0).trans rfl
                have hcz40_1 : w39.cell? ⟨gb151, 1, none⟩ = some (.slice (some ⟨go32, 0, none⟩) x152001_1.length co36) := (blk_cell BK151.out 1).trans rfl
                have hfz40_0 := blk_frozen BK151.out 0
                have hfz40_1 := blk_frozen BK151.out 1
                have hnb41 := NB145_144.out
                have hnc41 := NB144_145.out
                have hcz42_0 : w39.cell? ⟨gb145, 0, none⟩ = some (.int .i64 0) := (blk_cell BK145.out 0).trans rfl
                have hcz42_1 : w39.cell? ⟨gb145, 1, none⟩ = some (.slice none 0 0) := (blk_cell BK145.out 1).trans rfl
                have hfz42_0 := blk_frozen BK145.out 0
                have hfz42_1 := blk_frozen BK145.out 1
                try go_wp2
                refine bodyPost_ret (results_ct rfl _ _ gb145 31 #[.int .i64 t147, .slice (some ⟨go32, 0, none⟩) x152001_1.length co36] (0, 0) _ rfl (by (with_reducible repeat (first | refine blk_drewN ?_ _ | refine blk_drew ?_ | refine blk_alloc ?_ _)); refine blk_put (cs := #[.int .i64 t147, .slice none 0 0]) ?_ 1 _ rfl; (with_reducible repeat (first | refine blk_drewN ?_ _ | refine blk_drew ?_ | refine blk_alloc ?_ _)); refine blk_put (cs := #[.int .i64 0, .slice none 0 0]) ?_ 0 _ rfl; (with_reducible repeat (first | refine blk_drewN ?_ _ | refine blk_drew ?_ | refine blk_alloc ?_ _)); exact BK145.out) Try.underlying31 rfl (by kernel_rfl)) rfl ?_
                exact ⟨_, by first | rfl | (simp [errW_none, errW_some] <;> rfl) | (simp only [← hji28]; first | rfl | (simp [errW_none, errW_some] <;> rfl)) | (simp [*, errW_none, errW_some] <;> rfl), by (with_reducible repeat (first | apply Kd.R_alloc | apply Kd.R_drewN | apply Kd.R_drew)); exact Kd.R_mono (Kd.R_far (p := ⟨gb145, 1, none⟩) (Kd.R_far (p := ⟨gb145, 0, none⟩) (Kd.R_types HO_152001.out BK145.out (by decide)) (fun _ hk => hk.2) (.int .i64 t147)) (fun _ hk => hk.2) (.slice (some ⟨go32, 0, none⟩) x152001_1.length co36)) (fun _ hk => trivial), by repeat (first | (with_reducible first | exact HB.out | apply below_alloc | apply pw_below_drewN | apply below_drew1 | refine below_set ?_ GE144.out | refine below_set ?_ GE145.out | refine below_set ?_ GE151.out) | exact HB.out)⟩
              · rw [if_neg c30] at H
                exact absurd H (by simp)
            · rw [if_neg c29] at H
              exact absurd H (by simp)
          · rw [if_neg c27] at H
            have c27b0 : decide (0 < (x152001_1.length : Int)) = false := decide_eq_false c27
            have c27b1 : decide (0 < x152001_1.length) = false := decide_eq_false (by omega)
            clear c27
            simp only [Option.some.injEq, Prod.mk.injEq] at H
            obtain ⟨rfl, rfl, rfl⟩ := H
            have hnb43 := NB151_144.out
            have hnc43 := NB144_151.out
            have hnb44 := NB151_145.out
            have hnc44 := NB145_151.out
            have hcz45_0 : wr.cell? ⟨gb151, 0, none⟩ = some (.int .i64 t147) := (blk_cell BK151.out 0).trans rfl
            have hcz45_1 : wr.cell? ⟨gb151, 1, none⟩ = some (u152001) := (blk_cell BK151.out 1).trans rfl
            have hfz45_0 := blk_frozen BK151.out 0
            have hfz45_1 := blk_frozen BK151.out 1
            obtain ⟨Ao46, co46, eo46⟩ := Kd.R_slice HO_152001.out
            subst eo46
            have hnb47 := NB145_144.out
            have hnc47 := NB144_145.out
            have hcz48_0 : wr.cell? ⟨gb145, 0, none⟩ = some (.int .i64 0) := (blk_cell BK145.out 0).trans rfl
            have hcz48_1 : wr.cell? ⟨gb145, 1, none⟩ = some (.slice none 0 0) := (blk_cell BK145.out 1).trans rfl
            have hfz48_0 := blk_frozen BK145.out 0
            have hfz48_1 := blk_frozen BK145.out 1
            go_wp2
            refine bodyPost_ret (results_ct rfl _ _ gb145 31 #[.int .i64 t147, .slice Ao46 x152001_1.length co46] (0, 0) _ rfl (by (with_reducible repeat (first | refine blk_drewN ?_ _ | refine blk_drew ?_ | refine blk_alloc ?_ _)); refine blk_put (cs := #[.int .i64 t147, .slice none 0 0]) ?_ 1 _ rfl; (with_reducible repeat (first | refine blk_drewN ?_ _ | refine blk_drew ?_ | refine blk_alloc ?_ _)); refine blk_put (cs := #[.int .i64 0, .slice none 0 0]) ?_ 0 _ rfl; (with_reducible repeat (first | refine blk_drewN ?_ _ | refine blk_drew ?_ | refine blk_alloc ?_ _)); exact BK145.out) Try.underlying31 rfl (by kernel_rfl)) rfl ?_
            exact ⟨_, by first | rfl | (simp [errW_none, errW_some] <;> rfl) | (simp [*, errW_none, errW_some] <;> rfl), by (with_reducible repeat (first | apply Kd.R_alloc | apply Kd.R_drewN | apply Kd.R_drew)); exact Kd.R_mono (Kd.R_far (p := ⟨gb145, 1, none⟩) (Kd.R_far (p := ⟨gb145, 0, none⟩) (Kd.R_types HO_152001.out BK145.out (by decide)) (fun _ hk => hk.2) (.int .i64 t147)) (fun _ hk => hk.2) (.slice Ao46 x152001_1.length co46)) (fun _ hk => trivial), by repeat (first | (with_reducible first | exact HB.out | apply below_alloc | apply pw_below_drewN | apply below_drew1 | refine below_set ?_ GE144.out | refine below_set ?_ GE145.out | refine below_set ?_ GE151.out) | exact HB.out)⟩
  · replace c3 := Bool.eq_false_iff.mpr c3
    subst c3
    have H1 : (some (0, ([] : List Int), 20)) = some (r1, r2, r3) := by rw [if_neg (show ¬ (false = true) by decide)] at H; exact H
    clear H
    have H := H1
    clear H1
    simp only [Option.some.injEq, Prod.mk.injEq] at H
    obtain ⟨rfl, rfl, rfl⟩ := H
    go_enter Try.func39, Try.ntmps39
    go_wp2_with (first | ((with_reducible refine gate_dst (N := 1) rfl ?_); refine box_event ?hg (N := 1) ?hd (cs := #[.int .i64 a0_0, .slice A0_1 l0_1.length c0_1]) (t := 31) ?hr ?_; (case hd => rfl); (case hg => rfl); (case hr => first | (go_simp; done) | (go_simp; rfl)); intro gb144 hg w49 hbox hb; have n0_ := Aside0.mk (below_step (by repeat (first | (with_reducible first | exact HB.out | apply below_alloc | apply pw_below_drewN | apply below_drew1) | exact HB.out)) hb); have n1_ := Aside0.mk (hbox); have n2_ := Aside0.mk ((by rw [hg]; exact (below_size (by repeat (first | (with_reducible first | exact HB.out | apply below_alloc | apply pw_below_drewN | apply below_drew1) | exact HB.out))) : w.heap.size ≤ gb144)); have n3_ := Aside0.mk ((by rw [hg]; exact (below_size (by repeat (first | (with_reducible first | exact HB.out | apply below_alloc | apply pw_below_drewN | apply below_drew1) | exact HB.out))) : w.heap.size ≤ gb144)); clear HB; have HB := n0_; have BK144 := n1_; have GW144 := n2_; have GE144 := n3_; clear n0_ n1_ n2_ n3_; clear hb hbox hg) | ((with_reducible refine gate_dst (N := 2) rfl ?_); refine box_event ?hg (N := 2) ?hd (cs := #[.int .i64 0, .slice none 0 0]) (t := 31) ?hr ?_; (case hd => rfl); (case hg => rfl); (case hr => first | (go_simp; done) | (go_simp; rfl)); intro gb145 hg w50 hbox hb; have n0_ := Aside0.mk (blk_below BK144.out hb); have n1_ := Aside0.mk (below_step (by repeat (first | (with_reducible first | exact HB.out | apply below_alloc | apply pw_below_drewN | apply below_drew1 | refine below_set ?_ GE144.out) | exact HB.out)) hb); have n2_ := Aside0.mk (hbox); have n3_ := Aside0.mk ((by rw [hg]; exact (below_size (by repeat (first | (with_reducible first | exact HB.out | apply below_alloc | apply pw_below_drewN | apply below_drew1 | refine below_set ?_ GE144.out) | exact HB.out))) : w.heap.size ≤ gb145)); have n4_ := Aside0.mk ((by rw [hg]; exact (below_size (by repeat (first | (with_reducible first | exact HB.out | apply below_alloc | apply pw_below_drewN | apply below_drew1 | refine below_set ?_ GE144.out) | exact HB.out))) : w.heap.size ≤ gb145)); have n5_ := Aside0.mk ((by rw [hg]; exact Nat.ne_of_lt (blk_lt BK144.out) : gb144 ≠ gb145)); have n6_ := Aside0.mk ((by rw [hg]; exact Nat.ne_of_gt (blk_lt BK144.out) : gb145 ≠ gb144)); clear BK144; clear HB; have BK144 := n0_; have HB := n1_; have BK145 := n2_; have GW145 := n3_; have GE145 := n4_; have NB144_145 := n5_; have NB145_144 := n6_; clear n0_ n1_ n2_ n3_ n4_ n5_ n6_; clear hb hbox hg; have hnb51 := NB144_145.out; have hnc51 := NB145_144.out; have hcz52_0 : w50.cell? ⟨gb144, 0, none⟩ = some (.int .i64 a0_0) := (blk_cell BK144.out 0).trans rfl; have hcz52_1 : w50.cell? ⟨gb144, 1, none⟩ = some (.slice A0_1 l0_1.length c0_1) := (blk_cell BK144.out 1).trans rfl; have hfz52_0 := blk_frozen BK144.out 0; have hfz52_1 := blk_frozen BK144.out 1) | ((with_reducible refine gate_callee (f := 22) rfl ?_); refine goesL_ (some 7) rfl rfl Try.func22 (by kernel_rfl) rfl #[.agg #[.int .i64 a0_0, .slice A0_1 l0_1.length c0_1]] rfl (by (try simp only [List.map_toArray, List.map_cons, List.map_nil]); first | done | rfl | (simp only [List.length_drop, List.length_take]; rfl)) ?_; (with_reducible refine (words_Valid.calls a0_0 _ _ l0_1 false _ ?side1 ?side2 A2.out).mono ?_); (case side1 => repeat (first | exact (Kd.C_below HR0_1.out HB.out) | (with_reducible refine Kd.C_alloc ?_ _) | (with_reducible refine Kd.C_drewN ?_ _) | (with_reducible refine Kd.C_drew ?_))); (case side2 => exact HC0_1.out); rintro e w53 ⟨rfl, hb⟩; refine ⟨_, rfl, ?_⟩; have n0_ := Aside0.mk (blk_below BK144.out hb); have n1_ := Aside0.mk (blk_below BK145.out hb); have n2_ := Aside0.mk (below_step (by repeat (first | (with_reducible first | exact HB.out | apply below_alloc | apply pw_below_drewN | apply below_drew1 | refine below_set ?_ GE144.out | refine below_set ?_ GE145.out) | exact HB.out)) hb); clear BK144; clear BK145; clear HB; have BK144 := n0_; have BK145 := n1_; have HB := n2_; clear n0_ n1_ n2_; (try clear hb); (try clear hb2); (try clear hk); (try clear hi); have hcz54_0 : w53.cell? ⟨gb145, 0, none⟩ = some (.int .i64 0) := (blk_cell BK145.out 0).trans rfl; have hcz54_1 : w53.cell? ⟨gb145, 1, none⟩ = some (.slice none 0 0) := (blk_cell BK145.out 1).trans rfl; have hfz54_0 := blk_frozen BK145.out 0; have hfz54_1 := blk_frozen BK145.out 1))
    refine bodyPost_ret (results_ct rfl _ _ gb145 31 #[.int .i64 0, .slice none 0 0] (0, 0) _ rfl (by (with_reducible repeat (first | refine blk_drewN ?_ _ | refine blk_drew ?_ | refine blk_alloc ?_ _)); refine blk_put (cs := #[.int .i64 0, .slice none 0 0]) ?_ 1 _ rfl; (with_reducible repeat (first | refine blk_drewN ?_ _ | refine blk_drew ?_ | refine blk_alloc ?_ _)); refine blk_put (cs := #[.int .i64 0, .slice none 0 0]) ?_ 0 _ rfl; (with_reducible repeat (first | refine blk_drewN ?_ _ | refine blk_drew ?_ | refine blk_alloc ?_ _)); exact BK145.out) Try.underlying31 rfl (by kernel_rfl)) rfl ?_
    exact ⟨_, by first | rfl | (simp [errW_none, errW_some] <;> rfl) | (simp [*, errW_none, errW_some] <;> rfl), by first | exact Kd.R_nil _ _ _ _ _ | exact Kd.N_nil _ _ _ _ _ | exact Kd.V_nil _ _ _ _ _ | exact Kd.Q_nil _ _ _ _ _ | exact Kd.S_nil _ _ _ _ _, by repeat (first | (with_reducible first | exact HB.out | apply below_alloc | apply pw_below_drewN | apply below_drew1 | refine below_set ?_ GE144.out | refine below_set ?_ GE145.out) | exact HB.out)⟩
mutual
def words_fits.l0 : Nat → List (S31) → List (S31) → Int → Int → Option (Int)
  | 0, _, _, _, _ => none
  | k + 1, x0, x7, x8, x9 => if x9 < x8 then (if 0 ≤ x9 then (if x9 < (x7.length : Int) then ((words_Valid.f ((rd_T31 x7 x9).f0) ((rd_T31 x7 x9).f1)).bind fun t159 => (if t159 = true then (words_fits.l0 k x0 x7 x8 (wrap64 (x9 + 1))) else (some 20))) else (none)) else (none)) else (words_fits.l1 k x0 x0 (x0.length : Int) 0)
def words_fits.l1 : Nat → List (S31) → List (S31) → Int → Int → Option (Int)
  | 0, _, _, _, _ => none
  | k + 1, x0, x17, x18, x19 => if x19 < x18 then (if 0 ≤ x19 then (if x19 < (x17.length : Int) then (if 0 < (x0.length : Int) then (if ((rd_T31 x17 x19).f0) = ((rd_T31 x0 0).f0) then (words_fits.l1 k x0 x17 x18 (wrap64 (x19 + 1))) else (some 21)) else (none)) else (none)) else (none)) else (some 0)
end
def words_fits.f (k : Nat) (l0 : List (S31)) : Option (Int) := words_fits.l0 k l0 l0 (l0.length : Int) 0
set_option maxHeartbeats 8000000 in
set_option maxRecDepth 100000 in
theorem words_fits.calls (k : Nat) (A0 : Option Addr) (c0 : Nat) (l0 : List (S31)) (r : Int) (w : World) (hr0 : Kd.C k31 w A0 l0.length l0) (hc0 : l0.length ≤ c0) (h : words_fits.f k l0 = some r) :
    Calls Try.prog 55 #[.slice A0 l0.length c0] w fun e w' => e = .returned (.int .i64 r) ∧ Below w.heap.size w w' := by
  have hu31 := Try.underlying31
  have HR0 := Aside0.mk hr0
  have HC0 := Aside0.mk hc0
  clear hr0 hc0
  have HB := Aside0.mk (Below.refl w.heap.size w)
  have H : (words_fits.l0 k l0 l0 (l0.length : Int) 0) = some r := h
  clear h
  have H' := Aside0.mk H
  clear H
  go_enter Try.func55, Try.ntmps55
  go_wp2
  repeat (go_quiet (fail); try go_wp2)
  go_loopg [9] k (fun kq v9 w' => ∃ (x9_1 : Int), v9 = .int .i64 x9_1 ∧ Aside0 (words_fits.l0 kq l0 l0 (l0.length : Int) x9_1 = some r) ∧ Aside0 (kq ≤ k) ∧ Aside0 (Below w.heap.size w w'))
  case atStart => exact ⟨(0), (by first | rfl | (simp; done) | (simp [*]; done) | (simp [wrap64]; done)), H', ⟨Nat.le_refl _⟩, ⟨by repeat (first | (with_reducible first | exact HB.out | apply below_alloc | apply pw_below_drewN | apply below_drew1) | exact HB.out)⟩⟩
  case round =>
    clear H'
    obtain ⟨x9_1, rfl, HA, HK1, HB⟩ := hrel
    cases gk with
    | zero => exact absurd HA.out (by simp [words_fits.l0])
    | succ k1 =>
      have H := HA.out
      clear HA
      simp only [words_fits.l0] at H
      by_cases c2 : x9_1 < (l0.length : Int)
      · rw [if_pos c2] at H
        have c2b0 : decide (x9_1 < (l0.length : Int)) = true := decide_eq_true c2
        clear c2
        by_cases c3 : 0 ≤ x9_1
        · rw [if_pos c3] at H
          have c3b0 : decide (0 ≤ x9_1) = true := decide_eq_true c3
          clear c3
          by_cases c4 : x9_1 < (l0.length : Int)
          · rw [if_pos c4] at H
            have c4b0 : decide (x9_1 < (l0.length : Int)) = true := decide_eq_true c4
            clear c4
            replace H := Option.bind_eq_some_iff.mp H
            obtain ⟨t159, A50, H⟩ := H
            replace H : (if t159 = true then (words_fits.l0 k1 l0 l0 (l0.length : Int) (wrap64 (x9_1 + 1))) else (some 20)) = some r := H
            have A5 := Aside0.mk A50
            clear A50
            by_cases c6 : t159 = true
            · subst c6
              have H1 : (words_fits.l0 k1 l0 l0 (l0.length : Int) (wrap64 (x9_1 + 1))) = some r := by rw [if_pos rfl] at H; exact H
              clear H
              have H := H1
              clear H1
              have H' := Aside0.mk H
              clear H
              have p157 : 0 ≤ (x9_1 : Int) := of_decide_eq_true (by first | (with_reducible assumption) | assumption)
              have q157 : x9_1 < (l0.length : Int) := of_decide_eq_true (by first | (with_reducible assumption) | assumption)
              obtain ⟨ad157, A157_1, c157_1, e157, hx157_0, hx157_1, hl157_1, hi157_1⟩ := at_T31 HR0.out x9_1 p157 q157
              cases e157
              replace hx157_0 := (HB.out.cell (World.block_lt_of_cell? w _ hx157_0)).trans hx157_0
              replace hx157_1 := (HB.out.cell (World.block_lt_of_cell? w _ hx157_1)).trans hx157_1
              have HR157_1 := Aside0.mk hi157_1
              have HC157_1 := Aside0.mk hl157_1
              clear hi157_1 hl157_1
              replace p157 := eq_true p157
              replace q157 := eq_true q157
              go_wp2_with (first | ((with_reducible refine gate_dst (N := 4) rfl ?_); refine box_event ?hg (N := 4) ?hd (cs := #[.int .i64 0, .slice none 0 0]) (t := 31) ?hr ?_; (case hd => rfl); (case hg => rfl); (case hr => first | (go_simp; done) | (go_simp; rfl)); intro gb158 hg w7 hbox hb; have n0_ := Aside0.mk (below_step (by repeat (first | (with_reducible first | exact HB.out | apply below_alloc | apply pw_below_drewN | apply below_drew1) | exact HB.out)) hb); have n1_ := Aside0.mk (hbox); have n2_ := Aside0.mk ((by rw [hg]; exact (below_size (by repeat (first | (with_reducible first | exact HB.out | apply below_alloc | apply pw_below_drewN | apply below_drew1) | exact HB.out))) : w.heap.size ≤ gb158)); have n3_ := Aside0.mk ((by rw [hg]; exact (below_size (by repeat (first | (with_reducible first | exact HB.out | apply below_alloc | apply pw_below_drewN | apply below_drew1) | exact HB.out))) : w.heap.size ≤ gb158)); clear HB; have HB := n0_; have BK158 := n1_; have GW158 := n2_; have GE158 := n3_; clear n0_ n1_ n2_ n3_; clear hb hbox hg; have hcz8_0 : w7.cell? ⟨gb158, 0, none⟩ = some (.int .i64 0) := (blk_cell BK158.out 0).trans rfl; have hcz8_1 : w7.cell? ⟨gb158, 1, none⟩ = some (.slice none 0 0) := (blk_cell BK158.out 1).trans rfl; have hfz8_0 := blk_frozen BK158.out 0; have hfz8_1 := blk_frozen BK158.out 1) | (go_at_call 22; (with_reducible refine (words_Valid.calls ((rd_T31 l0 x9_1).f0) _ _ ((rd_T31 l0 x9_1).f1) true _ ?side1 ?side2 A5.out).mono ?_); (case side1 => exact Kd.C_below HR157_1.out (by repeat (first | (with_reducible first | exact HB.out | apply below_alloc | apply pw_below_drewN | apply below_drew1 | refine below_set ?_ GE158.out) | exact HB.out))); (case side2 => exact HC157_1.out); rintro e w9 ⟨rfl, hb⟩; have n0_ := Aside0.mk (blk_below (g := gb158) (o := .cells #[.int .i64 ((rd_T31 l0 x9_1).f0), .slice A157_1 ((rd_T31 l0 x9_1).f1).length c157_1] 31 (0, 0)) (by (with_reducible repeat (first | refine blk_drewN ?_ _ | refine blk_drew ?_ | refine blk_alloc ?_ _)); refine blk_put (cs := #[.int .i64 ((rd_T31 l0 x9_1).f0), .slice none 0 0]) ?_ 1 _ rfl; (with_reducible repeat (first | refine blk_drewN ?_ _ | refine blk_drew ?_ | refine blk_alloc ?_ _)); refine blk_put (cs := #[.int .i64 0, .slice none 0 0]) ?_ 0 _ rfl; (with_reducible repeat (first | refine blk_drewN ?_ _ | refine blk_drew ?_ | refine blk_alloc ?_ _)); exact BK158.out) hb); have n1_ := Aside0.mk (below_step (by repeat (first | (with_reducible first | exact HB.out | apply below_alloc | apply pw_below_drewN | apply below_drew1 | refine below_set ?_ GE158.out) | exact HB.out)) hb); clear BK158; clear HB; have BK158 := n0_; have HB := n1_; clear n0_ n1_; (try clear hb); (try clear hb2); (try clear hk); (try clear hi)))
              repeat (go_quiet (first | ((with_reducible refine gate_dst (N := 4) rfl ?_); refine box_event ?hg (N := 4) ?hd (cs := #[.int .i64 0, .slice none 0 0]) (t := 31) ?hr ?_; (case hd => rfl); (case hg => rfl); (case hr => first | (go_simp; done) | (go_simp; rfl)); intro gb158 hg w7 hbox hb; have n0_ := Aside0.mk (below_step (by repeat (first | (with_reducible first | exact HB.out | apply below_alloc | apply pw_below_drewN | apply below_drew1) | exact HB.out)) hb); have n1_ := Aside0.mk (hbox); have n2_ := Aside0.mk ((by rw [hg]; exact (below_size (by repeat (first | (with_reducible first | exact HB.out | apply below_alloc | apply pw_below_drewN | apply below_drew1) | exact HB.out))) : w.heap.size ≤ gb158)); have n3_ := Aside0.mk ((by rw [hg]; exact (below_size (by repeat (first | (with_reducible first | exact HB.out | apply below_alloc | apply pw_below_drewN | apply below_drew1) | exact HB.out))) : w.heap.size ≤ gb158)); clear HB; have HB := n0_; have BK158 := n1_; have GW158 := n2_; have GE158 := n3_; clear n0_ n1_ n2_ n3_; clear hb hbox hg; have hcz8_0 : w7.cell? ⟨gb158, 0, none⟩ = some (.int .i64 0) := (blk_cell BK158.out 0).trans rfl; have hcz8_1 : w7.cell? ⟨gb158, 1, none⟩ = some (.slice none 0 0) := (blk_cell BK158.out 1).trans rfl; have hfz8_0 := blk_frozen BK158.out 0; have hfz8_1 := blk_frozen BK158.out 1) | (go_at_call 22; (with_reducible refine (words_Valid.calls ((rd_T31 l0 x9_1).f0) _ _ ((rd_T31 l0 x9_1).f1) true _ ?side1 ?side2 A5.out).mono ?_); (case side1 => exact Kd.C_below HR157_1.out (by repeat (first | (with_reducible first | exact HB.out | apply below_alloc | apply pw_below_drewN | apply below_drew1 | refine below_set ?_ GE158.out) | exact HB.out))); (case side2 => exact HC157_1.out); rintro e w9 ⟨rfl, hb⟩; have n0_ := Aside0.mk (blk_below (g := gb158) (o := .cells #[.int .i64 ((rd_T31 l0 x9_1).f0), .slice A157_1 ((rd_T31 l0 x9_1).f1).length c157_1] 31 (0, 0)) (by (with_reducible repeat (first | refine blk_drewN ?_ _ | refine blk_drew ?_ | refine blk_alloc ?_ _)); refine blk_put (cs := #[.int .i64 ((rd_T31 l0 x9_1).f0), .slice none 0 0]) ?_ 1 _ rfl; (with_reducible repeat (first | refine blk_drewN ?_ _ | refine blk_drew ?_ | refine blk_alloc ?_ _)); refine blk_put (cs := #[.int .i64 0, .slice none 0 0]) ?_ 0 _ rfl; (with_reducible repeat (first | refine blk_drewN ?_ _ | refine blk_drew ?_ | refine blk_alloc ?_ _)); exact BK158.out) hb); have n1_ := Aside0.mk (below_step (by repeat (first | (with_reducible first | exact HB.out | apply below_alloc | apply pw_below_drewN | apply below_drew1 | refine below_set ?_ GE158.out) | exact HB.out)) hb); clear BK158; clear HB; have BK158 := n0_; have HB := n1_; clear n0_ n1_; (try clear hb); (try clear hb2); (try clear hk); (try clear hi))); try go_wp2_with (first | ((with_reducible refine gate_dst (N := 4) rfl ?_); refine box_event ?hg (N := 4) ?hd (cs := #[.int .i64 0, .slice none 0 0]) (t := 31) ?hr ?_; (case hd => rfl); (case hg => rfl); (case hr => first | (go_simp; done) | (go_simp; rfl)); intro gb158 hg w7 hbox hb; have n0_ := Aside0.mk (below_step (by repeat (first | (with_reducible first | exact HB.out | apply below_alloc | apply pw_below_drewN | apply below_drew1) | exact HB.out)) hb); have n1_ := Aside0.mk (hbox); have n2_ := Aside0.mk ((by rw [hg]; exact (below_size (by repeat (first | (with_reducible first | exact HB.out | apply below_alloc | apply pw_below_drewN | apply below_drew1) | exact HB.out))) : w.heap.size ≤ gb158)); have n3_ := Aside0.mk ((by rw [hg]; exact (below_size (by repeat (first | (with_reducible first | exact HB.out | apply below_alloc | apply pw_below_drewN | apply below_drew1) | exact HB.out))) : w.heap.size ≤ gb158)); clear HB; have HB := n0_; have BK158 := n1_; have GW158 := n2_; have GE158 := n3_; clear n0_ n1_ n2_ n3_; clear hb hbox hg; have hcz8_0 : w7.cell? ⟨gb158, 0, none⟩ = some (.int .i64 0) := (blk_cell BK158.out 0).trans rfl; have hcz8_1 : w7.cell? ⟨gb158, 1, none⟩ = some (.slice none 0 0) := (blk_cell BK158.out 1).trans rfl; have hfz8_0 := blk_frozen BK158.out 0; have hfz8_1 := blk_frozen BK158.out 1) | (go_at_call 22; (with_reducible refine (words_Valid.calls ((rd_T31 l0 x9_1).f0) _ _ ((rd_T31 l0 x9_1).f1) true _ ?side1 ?side2 A5.out).mono ?_); (case side1 => exact Kd.C_below HR157_1.out (by repeat (first | (with_reducible first | exact HB.out | apply below_alloc | apply pw_below_drewN | apply below_drew1 | refine below_set ?_ GE158.out) | exact HB.out))); (case side2 => exact HC157_1.out); rintro e w9 ⟨rfl, hb⟩; have n0_ := Aside0.mk (blk_below (g := gb158) (o := .cells #[.int .i64 ((rd_T31 l0 x9_1).f0), .slice A157_1 ((rd_T31 l0 x9_1).f1).length c157_1] 31 (0, 0)) (by (with_reducible repeat (first | refine blk_drewN ?_ _ | refine blk_drew ?_ | refine blk_alloc ?_ _)); refine blk_put (cs := #[.int .i64 ((rd_T31 l0 x9_1).f0), .slice none 0 0]) ?_ 1 _ rfl; (with_reducible repeat (first | refine blk_drewN ?_ _ | refine blk_drew ?_ | refine blk_alloc ?_ _)); refine blk_put (cs := #[.int .i64 0, .slice none 0 0]) ?_ 0 _ rfl; (with_reducible repeat (first | refine blk_drewN ?_ _ | refine blk_drew ?_ | refine blk_alloc ?_ _)); exact BK158.out) hb); have n1_ := Aside0.mk (below_step (by repeat (first | (with_reducible first | exact HB.out | apply below_alloc | apply pw_below_drewN | apply below_drew1 | refine below_set ?_ GE158.out) | exact HB.out)) hb); clear BK158; clear HB; have BK158 := n0_; have HB := n1_; clear n0_ n1_; (try clear hb); (try clear hb2); (try clear hk); (try clear hi))))
              go_roundg k1
              case measure => have := HK1.out; omega
              case rel => exact ⟨(wrap64 (x9_1 + 1)), (by first | rfl | (simp; done) | (simp [*]; done) | (simp [wrap64]; done)), H', ⟨by have := HK1.out; omega⟩, ⟨by repeat (first | (with_reducible first | exact HB.out | apply below_alloc | apply pw_below_drewN | apply below_drew1 | refine below_set ?_ GE158.out) | exact HB.out)⟩⟩
            · replace c6 := Bool.eq_false_iff.mpr c6
              subst c6
              have H1 : (some 20) = some r := by rw [if_neg (show ¬ (false = true) by decide)] at H; exact H
              clear H
              have H := H1
              clear H1
              obtain rfl := Option.some.inj H
              have p157 : 0 ≤ (x9_1 : Int) := of_decide_eq_true (by first | (with_reducible assumption) | assumption)
              have q157 : x9_1 < (l0.length : Int) := of_decide_eq_true (by first | (with_reducible assumption) | assumption)
              obtain ⟨ad157, A157_1, c157_1, e157, hx157_0, hx157_1, hl157_1, hi157_1⟩ := at_T31 HR0.out x9_1 p157 q157
              cases e157
              replace hx157_0 := (HB.out.cell (World.block_lt_of_cell? w _ hx157_0)).trans hx157_0
              replace hx157_1 := (HB.out.cell (World.block_lt_of_cell? w _ hx157_1)).trans hx157_1
              have HR157_1 := Aside0.mk hi157_1
              have HC157_1 := Aside0.mk hl157_1
              clear hi157_1 hl157_1
              replace p157 := eq_true p157
              replace q157 := eq_true q157
              go_wp2_with (first | ((with_reducible refine gate_dst (N := 4) rfl ?_); refine box_event ?hg (N := 4) ?hd (cs := #[.int .i64 0, .slice none 0 0]) (t := 31) ?hr ?_; (case hd => rfl); (case hg => rfl); (case hr => first | (go_simp; done) | (go_simp; rfl)); intro gb158 hg w10 hbox hb; have n0_ := Aside0.mk (below_step (by repeat (first | (with_reducible first | exact HB.out | apply below_alloc | apply pw_below_drewN | apply below_drew1) | exact HB.out)) hb); have n1_ := Aside0.mk (hbox); have n2_ := Aside0.mk ((by rw [hg]; exact (below_size (by repeat (first | (with_reducible first | exact HB.out | apply below_alloc | apply pw_below_drewN | apply below_drew1) | exact HB.out))) : w.heap.size ≤ gb158)); have n3_ := Aside0.mk ((by rw [hg]; exact (below_size (by repeat (first | (with_reducible first | exact HB.out | apply below_alloc | apply pw_below_drewN | apply below_drew1) | exact HB.out))) : w.heap.size ≤ gb158)); clear HB; have HB := n0_; have BK158 := n1_; have GW158 := n2_; have GE158 := n3_; clear n0_ n1_ n2_ n3_; clear hb hbox hg; have hcz11_0 : w10.cell? ⟨gb158, 0, none⟩ = some (.int .i64 0) := (blk_cell BK158.out 0).trans rfl; have hcz11_1 : w10.cell? ⟨gb158, 1, none⟩ = some (.slice none 0 0) := (blk_cell BK158.out 1).trans rfl; have hfz11_0 := blk_frozen BK158.out 0; have hfz11_1 := blk_frozen BK158.out 1) | (go_at_call 22; (with_reducible refine (words_Valid.calls ((rd_T31 l0 x9_1).f0) _ _ ((rd_T31 l0 x9_1).f1) false _ ?side1 ?side2 A5.out).mono ?_); (case side1 => exact Kd.C_below HR157_1.out (by repeat (first | (with_reducible first | exact HB.out | apply below_alloc | apply pw_below_drewN | apply below_drew1 | refine below_set ?_ GE158.out) | exact HB.out))); (case side2 => exact HC157_1.out); rintro e w12 ⟨rfl, hb⟩; have n0_ := Aside0.mk (blk_below (g := gb158) (o := .cells #[.int .i64 ((rd_T31 l0 x9_1).f0), .slice A157_1 ((rd_T31 l0 x9_1).f1).length c157_1] 31 (0, 0)) (by (with_reducible repeat (first | refine blk_drewN ?_ _ | refine blk_drew ?_ | refine blk_alloc ?_ _)); refine blk_put (cs := #[.int .i64 ((rd_T31 l0 x9_1).f0), .slice none 0 0]) ?_ 1 _ rfl; (with_reducible repeat (first | refine blk_drewN ?_ _ | refine blk_drew ?_ | refine blk_alloc ?_ _)); refine blk_put (cs := #[.int .i64 0, .slice none 0 0]) ?_ 0 _ rfl; (with_reducible repeat (first | refine blk_drewN ?_ _ | refine blk_drew ?_ | refine blk_alloc ?_ _)); exact BK158.out) hb); have n1_ := Aside0.mk (below_step (by repeat (first | (with_reducible first | exact HB.out | apply below_alloc | apply pw_below_drewN | apply below_drew1 | refine below_set ?_ GE158.out) | exact HB.out)) hb); clear BK158; clear HB; have BK158 := n0_; have HB := n1_; clear n0_ n1_; (try clear hb); (try clear hb2); (try clear hk); (try clear hi)))
              repeat (go_quiet (first | ((with_reducible refine gate_dst (N := 4) rfl ?_); refine box_event ?hg (N := 4) ?hd (cs := #[.int .i64 0, .slice none 0 0]) (t := 31) ?hr ?_; (case hd => rfl); (case hg => rfl); (case hr => first | (go_simp; done) | (go_simp; rfl)); intro gb158 hg w10 hbox hb; have n0_ := Aside0.mk (below_step (by repeat (first | (with_reducible first | exact HB.out | apply below_alloc | apply pw_below_drewN | apply below_drew1) | exact HB.out)) hb); have n1_ := Aside0.mk (hbox); have n2_ := Aside0.mk ((by rw [hg]; exact (below_size (by repeat (first | (with_reducible first | exact HB.out | apply below_alloc | apply pw_below_drewN | apply below_drew1) | exact HB.out))) : w.heap.size ≤ gb158)); have n3_ := Aside0.mk ((by rw [hg]; exact (below_size (by repeat (first | (with_reducible first | exact HB.out | apply below_alloc | apply pw_below_drewN | apply below_drew1) | exact HB.out))) : w.heap.size ≤ gb158)); clear HB; have HB := n0_; have BK158 := n1_; have GW158 := n2_; have GE158 := n3_; clear n0_ n1_ n2_ n3_; clear hb hbox hg; have hcz11_0 : w10.cell? ⟨gb158, 0, none⟩ = some (.int .i64 0) := (blk_cell BK158.out 0).trans rfl; have hcz11_1 : w10.cell? ⟨gb158, 1, none⟩ = some (.slice none 0 0) := (blk_cell BK158.out 1).trans rfl; have hfz11_0 := blk_frozen BK158.out 0; have hfz11_1 := blk_frozen BK158.out 1) | (go_at_call 22; (with_reducible refine (words_Valid.calls ((rd_T31 l0 x9_1).f0) _ _ ((rd_T31 l0 x9_1).f1) false _ ?side1 ?side2 A5.out).mono ?_); (case side1 => exact Kd.C_below HR157_1.out (by repeat (first | (with_reducible first | exact HB.out | apply below_alloc | apply pw_below_drewN | apply below_drew1 | refine below_set ?_ GE158.out) | exact HB.out))); (case side2 => exact HC157_1.out); rintro e w12 ⟨rfl, hb⟩; have n0_ := Aside0.mk (blk_below (g := gb158) (o := .cells #[.int .i64 ((rd_T31 l0 x9_1).f0), .slice A157_1 ((rd_T31 l0 x9_1).f1).length c157_1] 31 (0, 0)) (by (with_reducible repeat (first | refine blk_drewN ?_ _ | refine blk_drew ?_ | refine blk_alloc ?_ _)); refine blk_put (cs := #[.int .i64 ((rd_T31 l0 x9_1).f0), .slice none 0 0]) ?_ 1 _ rfl; (with_reducible repeat (first | refine blk_drewN ?_ _ | refine blk_drew ?_ | refine blk_alloc ?_ _)); refine blk_put (cs := #[.int .i64 0, .slice none 0 0]) ?_ 0 _ rfl; (with_reducible repeat (first | refine blk_drewN ?_ _ | refine blk_drew ?_ | refine blk_alloc ?_ _)); exact BK158.out) hb); have n1_ := Aside0.mk (below_step (by repeat (first | (with_reducible first | exact HB.out | apply below_alloc | apply pw_below_drewN | apply below_drew1 | refine below_set ?_ GE158.out) | exact HB.out)) hb); clear BK158; clear HB; have BK158 := n0_; have HB := n1_; clear n0_ n1_; (try clear hb); (try clear hb2); (try clear hk); (try clear hi))); try go_wp2_with (first | ((with_reducible refine gate_dst (N := 4) rfl ?_); refine box_event ?hg (N := 4) ?hd (cs := #[.int .i64 0, .slice none 0 0]) (t := 31) ?hr ?_; (case hd => rfl); (case hg => rfl); (case hr => first | (go_simp; done) | (go_simp; rfl)); intro gb158 hg w10 hbox hb; have n0_ := Aside0.mk (below_step (by repeat (first | (with_reducible first | exact HB.out | apply below_alloc | apply pw_below_drewN | apply below_drew1) | exact HB.out)) hb); have n1_ := Aside0.mk (hbox); have n2_ := Aside0.mk ((by rw [hg]; exact (below_size (by repeat (first | (with_reducible first | exact HB.out | apply below_alloc | apply pw_below_drewN | apply below_drew1) | exact HB.out))) : w.heap.size ≤ gb158)); have n3_ := Aside0.mk ((by rw [hg]; exact (below_size (by repeat (first | (with_reducible first | exact HB.out | apply below_alloc | apply pw_below_drewN | apply below_drew1) | exact HB.out))) : w.heap.size ≤ gb158)); clear HB; have HB := n0_; have BK158 := n1_; have GW158 := n2_; have GE158 := n3_; clear n0_ n1_ n2_ n3_; clear hb hbox hg; have hcz11_0 : w10.cell? ⟨gb158, 0, none⟩ = some (.int .i64 0) := (blk_cell BK158.out 0).trans rfl; have hcz11_1 : w10.cell? ⟨gb158, 1, none⟩ = some (.slice none 0 0) := (blk_cell BK158.out 1).trans rfl; have hfz11_0 := blk_frozen BK158.out 0; have hfz11_1 := blk_frozen BK158.out 1) | (go_at_call 22; (with_reducible refine (words_Valid.calls ((rd_T31 l0 x9_1).f0) _ _ ((rd_T31 l0 x9_1).f1) false _ ?side1 ?side2 A5.out).mono ?_); (case side1 => exact Kd.C_below HR157_1.out (by repeat (first | (with_reducible first | exact HB.out | apply below_alloc | apply pw_below_drewN | apply below_drew1 | refine below_set ?_ GE158.out) | exact HB.out))); (case side2 => exact HC157_1.out); rintro e w12 ⟨rfl, hb⟩; have n0_ := Aside0.mk (blk_below (g := gb158) (o := .cells #[.int .i64 ((rd_T31 l0 x9_1).f0), .slice A157_1 ((rd_T31 l0 x9_1).f1).length c157_1] 31 (0, 0)) (by (with_reducible repeat (first | refine blk_drewN ?_ _ | refine blk_drew ?_ | refine blk_alloc ?_ _)); refine blk_put (cs := #[.int .i64 ((rd_T31 l0 x9_1).f0), .slice none 0 0]) ?_ 1 _ rfl; (with_reducible repeat (first | refine blk_drewN ?_ _ | refine blk_drew ?_ | refine blk_alloc ?_ _)); refine blk_put (cs := #[.int .i64 0, .slice none 0 0]) ?_ 0 _ rfl; (with_reducible repeat (first | refine blk_drewN ?_ _ | refine blk_drew ?_ | refine blk_alloc ?_ _)); exact BK158.out) hb); have n1_ := Aside0.mk (below_step (by repeat (first | (with_reducible first | exact HB.out | apply below_alloc | apply pw_below_drewN | apply below_drew1 | refine below_set ?_ GE158.out) | exact HB.out)) hb); clear BK158; clear HB; have BK158 := n0_; have HB := n1_; clear n0_ n1_; (try clear hb); (try clear hb2); (try clear hk); (try clear hi))))
              go_ret
              exact ⟨by first | rfl | (simp [errW_none, errW_some] <;> rfl) | (simp [*, errW_none, errW_some] <;> rfl), by repeat (first | (with_reducible first | exact HB.out | apply below_alloc | apply pw_below_drewN | apply below_drew1 | refine below_set ?_ GE158.out) | exact HB.out)⟩
          · rw [if_neg c4] at H
            exact absurd H (by simp)
        · rw [if_neg c3] at H
          exact absurd H (by simp)
      · rw [if_neg c2] at H
        have c2b0 : decide (x9_1 < (l0.length : Int)) = false := decide_eq_false c2
        clear c2
        have H' := Aside0.mk H
        clear H
        go_wp2
        repeat (go_quiet (fail); try go_wp2)
        go_loopg [19] k1 (fun kq v19 w' => ∃ (x19_2 : Int), v19 = .int .i64 x19_2 ∧ Aside0 (words_fits.l1 kq l0 l0 (l0.length : Int) x19_2 = some r) ∧ Aside0 (kq ≤ k1) ∧ Aside0 (Below w.heap.size w w'))
        case atStart => exact ⟨(0), (by first | rfl | (simp; done) | (simp [*]; done) | (simp [wrap64]; done)), H', ⟨Nat.le_refl _⟩, ⟨by repeat (first | (with_reducible first | exact HB.out | apply below_alloc | apply pw_below_drewN | apply below_drew1) | exact HB.out)⟩⟩
        case round =>
          clear H'
          try clear c1
          try clear p1
          try clear q1
          try clear hx1
          try clear c2
          try clear c2b0
          try clear p2
          try clear c3
          try clear c3b0
          try clear c4
          try clear c4b0
          try clear c5
          try clear c6
          try clear p6
          try clear hcz11_0
          try clear hcz11_1
          try clear hcz8_0
          try clear hcz8_1
          try clear hfz11_0
          try clear hfz11_1
          try clear hfz8_0
          try clear hfz8_1
          try clear hx157_0
          try clear hx157_1
          try clear p157
          try clear q157
          obtain ⟨x19_2, rfl, HA, HK2, HB⟩ := hrel
          cases gk with
          | zero => exact absurd HA.out (by simp [words_fits.l1])
          | succ k2 =>
            have H := HA.out
            clear HA
            simp only [words_fits.l1] at H
            by_cases c13 : x19_2 < (l0.length : Int)
            · rw [if_pos c13] at H
              have c13b0 : decide (x19_2 < (l0.length : Int)) = true := decide_eq_true c13
              clear c13
              by_cases c14 : 0 ≤ x19_2
              · rw [if_pos c14] at H
                have c14b0 : decide (0 ≤ x19_2) = true := decide_eq_true c14
                clear c14
                by_cases c15 : x19_2 < (l0.length : Int)
                · rw [if_pos c15] at H
                  have c15b0 : decide (x19_2 < (l0.length : Int)) = true := decide_eq_true c15
                  clear c15
                  by_cases c16 : 0 < (l0.length : Int)
                  · rw [if_pos c16] at H
                    have c16b0 : decide (0 < (l0.length : Int)) = true := decide_eq_true c16
                    have c16b1 : decide (0 < l0.length) = true := decide_eq_true (by omega)
                    clear c16
                    by_cases c17 : ((rd_T31 l0 x19_2).f0) = ((rd_T31 l0 0).f0)
                    · rw [if_pos c17] at H
                      have c17b0 : (((rd_T31 l0 x19_2).f0) == ((rd_T31 l0 0).f0)) = true := beq_iff_eq.mpr c17
                      have c17b1 : (((rd_T31 l0 x19_2).f0) != ((rd_T31 l0 0).f0)) = false := bne_eq_false_iff_eq.mpr c17
                      clear c17
                      have H' := Aside0.mk H
                      clear H
                      have p160 : 0 ≤ (x19_2 : Int) := of_decide_eq_true (by first | (with_reducible assumption) | assumption)
                      have q160 : x19_2 < (l0.length : Int) := of_decide_eq_true (by first | (with_reducible assumption) | assumption)
                      obtain ⟨ad160, A160_1, c160_1, e160, hx160_0, hx160_1, hl160_1, hi160_1⟩ := at_T31 HR0.out x19_2 p160 q160
                      cases e160
                      replace hx160_0 := (HB.out.cell (World.block_lt_of_cell? w _ hx160_0)).trans hx160_0
                      replace hx160_1 := (HB.out.cell (World.block_lt_of_cell? w _ hx160_1)).trans hx160_1
                      have HR160_1 := Aside0.mk hi160_1
                      have HC160_1 := Aside0.mk hl160_1
                      clear hi160_1 hl160_1
                      replace p160 := eq_true p160
                      replace q160 := eq_true q160
                      go_wp2_with (first | ((with_reducible refine gate_dst (N := 6) rfl ?_); refine box_event ?hg (N := 6) ?hd (cs := #[.int .i64 0, .slice none 0 0]) (t := 31) ?hr ?_; (case hd => rfl); (case hg => rfl); (case hr => first | (go_simp; done) | (go_simp; rfl)); intro gb161 hg w18 hbox hb; have n0_ := Aside0.mk (below_step (by repeat (first | (with_reducible first | exact HB.out | apply below_alloc | apply pw_below_drewN | apply below_drew1) | exact HB.out)) hb); have n1_ := Aside0.mk (hbox); have n2_ := Aside0.mk ((by rw [hg]; exact (below_size (by repeat (first | (with_reducible first | exact HB.out | apply below_alloc | apply pw_below_drewN | apply below_drew1) | exact HB.out))) : w.heap.size ≤ gb161)); have n3_ := Aside0.mk ((by rw [hg]; exact (below_size (by repeat (first | (with_reducible first | exact HB.out | apply below_alloc | apply pw_below_drewN | apply below_drew1) | exact HB.out))) : w.heap.size ≤ gb161)); clear HB; have HB := n0_; have BK161 := n1_; have GW161 := n2_; have GE161 := n3_; clear n0_ n1_ n2_ n3_; clear hb hbox hg; have hcz19_0 : w18.cell? ⟨gb161, 0, none⟩ = some (.int .i64 0) := (blk_cell BK161.out 0).trans rfl; have hcz19_1 : w18.cell? ⟨gb161, 1, none⟩ = some (.slice none 0 0) := (blk_cell BK161.out 1).trans rfl; have hfz19_0 := blk_frozen BK161.out 0; have hfz19_1 := blk_frozen BK161.out 1; have p162 : 0 ≤ (0 : Int) := (by omega); have q162 : 0 < (l0.length : Int) := of_decide_eq_true (by first | (with_reducible assumption) | assumption); obtain ⟨ad162, A162_1, c162_1, e162, hx162_0, hx162_1, hl162_1, hi162_1⟩ := at_T31 HR0.out 0 p162 q162; obtain rfl : ad160 = ad162 := (by injection e162); have qi162 : (0 < l0.length) = True := eq_true (by omega); (try rw [show ((0 : Int)).toNat = 0 from rfl] at hx162_0); (try rw [show 0 * 2 = 0 from rfl] at hx162_0); (try rw [Addr.add_zero'] at hx162_0); (try rw [show ((0 : Int)).toNat = 0 from rfl] at hx162_1); (try rw [show 0 * 2 = 0 from rfl] at hx162_1); (try rw [Addr.add_zero'] at hx162_1); have hn162_0 : ad160.block ≠ gb161 := Nat.ne_of_lt (Nat.lt_of_lt_of_le (by have := World.block_lt_of_cell? _ _ hx162_0; first | rwa [add_block] at this | exact this) GW161.out); have hn162_1 : ad160.block ≠ gb161 := Nat.ne_of_lt (Nat.lt_of_lt_of_le (by have := World.block_lt_of_cell? _ _ hx162_0; first | rwa [add_block] at this | exact this) GW161.out); replace hx162_0 := (HB.out.cell (World.block_lt_of_cell? w _ hx162_0)).trans hx162_0; replace hx162_1 := (HB.out.cell (World.block_lt_of_cell? w _ hx162_1)).trans hx162_1; have HR162_1 := Aside0.mk hi162_1; have HC162_1 := Aside0.mk hl162_1; clear hi162_1 hl162_1; replace hx162_0 := (cell_far (p := ⟨gb161, 0, none⟩) (by first | (rw [add_block]; exact hn162_0) | (show (Addr.add _ _).block ≠ _; rw [add_block]; exact hn162_0) | exact hn162_0) (.int .i64 ((rd_T31 l0 x19_2).f0))).trans hx162_0; replace hx162_1 := (cell_far (p := ⟨gb161, 0, none⟩) (by first | (rw [add_block]; exact hn162_0) | (show (Addr.add _ _).block ≠ _; rw [add_block]; exact hn162_0) | exact hn162_0) (.int .i64 ((rd_T31 l0 x19_2).f0))).trans hx162_1; replace hx162_0 := (cell_far (p := ⟨gb161, 1, none⟩) (by first | (rw [add_block]; exact hn162_1) | (show (Addr.add _ _).block ≠ _; rw [add_block]; exact hn162_1) | exact hn162_1) (.slice A160_1 ((rd_T31 l0 x19_2).f1).length c160_1)).trans hx162_0; replace hx162_1 := (cell_far (p := ⟨gb161, 1, none⟩) (by first | (rw [add_block]; exact hn162_1) | (show (Addr.add _ _).block ≠ _; rw [add_block]; exact hn162_1) | exact hn162_1) (.slice A160_1 ((rd_T31 l0 x19_2).f1).length c160_1)).trans hx162_1; (try have hy162_0 := fun (n_ : Nat) => (show ((((w18.drewN n_).setCell ⟨gb161, 0, none⟩ (.int .i64 ((rd_T31 l0 x19_2).f0))).setCell ⟨gb161, 1, none⟩ (.slice A160_1 ((rd_T31 l0 x19_2).f1).length c160_1))).cell? _ = some _ from hx162_0)); (try have hy162_1 := fun (n_ : Nat) => (show ((((w18.drewN n_).setCell ⟨gb161, 0, none⟩ (.int .i64 ((rd_T31 l0 x19_2).f0))).setCell ⟨gb161, 1, none⟩ (.slice A160_1 ((rd_T31 l0 x19_2).f1).length c160_1))).cell? _ = some _ from hx162_1)); clear hn162_0; clear hn162_1; replace p162 := eq_true p162; replace q162 := eq_true q162))
                      repeat (go_quiet (first | ((with_reducible refine gate_dst (N := 6) rfl ?_); refine box_event ?hg (N := 6) ?hd (cs := #[.int .i64 0, .slice none 0 0]) (t := 31) ?hr ?_; (case hd => rfl); (case hg => rfl); (case hr => first | (go_simp; done) | (go_simp; rfl)); intro gb161 hg w18 hbox hb; have n0_ := Aside0.mk (below_step (by repeat (first | (with_reducible first | exact HB.out | apply below_alloc | apply pw_below_drewN | apply below_drew1) | exact HB.out)) hb); have n1_ := Aside0.mk (hbox); have n2_ := Aside0.mk ((by rw [hg]; exact (below_size (by repeat (first | (with_reducible first | exact HB.out | apply below_alloc | apply pw_below_drewN | apply below_drew1) | exact HB.out))) : w.heap.size ≤ gb161)); have n3_ := Aside0.mk ((by rw [hg]; exact (below_size (by repeat (first | (with_reducible first | exact HB.out | apply below_alloc | apply pw_below_drewN | apply below_drew1) | exact HB.out))) : w.heap.size ≤ gb161)); clear HB; have HB := n0_; have BK161 := n1_; have GW161 := n2_; have GE161 := n3_; clear n0_ n1_ n2_ n3_; clear hb hbox hg; have hcz19_0 : w18.cell? ⟨gb161, 0, none⟩ = some (.int .i64 0) := (blk_cell BK161.out 0).trans rfl; have hcz19_1 : w18.cell? ⟨gb161, 1, none⟩ = some (.slice none 0 0) := (blk_cell BK161.out 1).trans rfl; have hfz19_0 := blk_frozen BK161.out 0; have hfz19_1 := blk_frozen BK161.out 1; have p162 : 0 ≤ (0 : Int) := (by omega); have q162 : 0 < (l0.length : Int) := of_decide_eq_true (by first | (with_reducible assumption) | assumption); obtain ⟨ad162, A162_1, c162_1, e162, hx162_0, hx162_1, hl162_1, hi162_1⟩ := at_T31 HR0.out 0 p162 q162; obtain rfl : ad160 = ad162 := (by injection e162); have qi162 : (0 < l0.length) = True := eq_true (by omega); (try rw [show ((0 : Int)).toNat = 0 from rfl] at hx162_0); (try rw [show 0 * 2 = 0 from rfl] at hx162_0); (try rw [Addr.add_zero'] at hx162_0); (try rw [show ((0 : Int)).toNat = 0 from rfl] at hx162_1); (try rw [show 0 * 2 = 0 from rfl] at hx162_1); (try rw [Addr.add_zero'] at hx162_1); have hn162_0 : ad160.block ≠ gb161 := Nat.ne_of_lt (Nat.lt_of_lt_of_le (by have := World.block_lt_of_cell? _ _ hx162_0; first | rwa [add_block] at this | exact this) GW161.out); have hn162_1 : ad160.block ≠ gb161 := Nat.ne_of_lt (Nat.lt_of_lt_of_le (by have := World.block_lt_of_cell? _ _ hx162_0; first | rwa [add_block] at this | exact this) GW161.out); replace hx162_0 := (HB.out.cell (World.block_lt_of_cell? w _ hx162_0)).trans hx162_0; replace hx162_1 := (HB.out.cell (World.block_lt_of_cell? w _ hx162_1)).trans hx162_1; have HR162_1 := Aside0.mk hi162_1; have HC162_1 := Aside0.mk hl162_1; clear hi162_1 hl162_1; replace hx162_0 := (cell_far (p := ⟨gb161, 0, none⟩) (by first | (rw [add_block]; exact hn162_0) | (show (Addr.add _ _).block ≠ _; rw [add_block]; exact hn162_0) | exact hn162_0) (.int .i64 ((rd_T31 l0 x19_2).f0))).trans hx162_0; replace hx162_1 := (cell_far (p := ⟨gb161, 0, none⟩) (by first | (rw [add_block]; exact hn162_0) | (show (Addr.add _ _).block ≠ _; rw [add_block]; exact hn162_0) | exact hn162_0) (.int .i64 ((rd_T31 l0 x19_2).f0))).trans hx162_1; replace hx162_0 := (cell_far (p := ⟨gb161, 1, none⟩) (by first | (rw [add_block]; exact hn162_1) | (show (Addr.add _ _).block ≠ _; rw [add_block]; exact hn162_1) | exact hn162_1) (.slice A160_1 ((rd_T31 l0 x19_2).f1).length c160_1)).trans hx162_0; replace hx162_1 := (cell_far (p := ⟨gb161, 1, none⟩) (by first | (rw [add_block]; exact hn162_1) | (show (Addr.add _ _).block ≠ _; rw [add_block]; exact hn162_1) | exact hn162_1) (.slice A160_1 ((rd_T31 l0 x19_2).f1).length c160_1)).trans hx162_1; (try have hy162_0 := fun (n_ : Nat) => (show ((((w18.drewN n_).setCell ⟨gb161, 0, none⟩ (.int .i64 ((rd_T31 l0 x19_2).f0))).setCell ⟨gb161, 1, none⟩ (.slice A160_1 ((rd_T31 l0 x19_2).f1).length c160_1))).cell? _ = some _ from hx162_0)); (try have hy162_1 := fun (n_ : Nat) => (show ((((w18.drewN n_).setCell ⟨gb161, 0, none⟩ (.int .i64 ((rd_T31 l0 x19_2).f0))).setCell ⟨gb161, 1, none⟩ (.slice A160_1 ((rd_T31 l0 x19_2).f1).length c160_1))).cell? _ = some _ from hx162_1)); clear hn162_0; clear hn162_1; replace p162 := eq_true p162; replace q162 := eq_true q162)); try go_wp2_with (first | ((with_reducible refine gate_dst (N := 6) rfl ?_); refine box_event ?hg (N := 6) ?hd (cs := #[.int .i64 0, .slice none 0 0]) (t := 31) ?hr ?_; (case hd => rfl); (case hg => rfl); (case hr => first | (go_simp; done) | (go_simp; rfl)); intro gb161 hg w18 hbox hb; have n0_ := Aside0.mk (below_step (by repeat (first | (with_reducible first | exact HB.out | apply below_alloc | apply pw_below_drewN | apply below_drew1) | exact HB.out)) hb); have n1_ := Aside0.mk (hbox); have n2_ := Aside0.mk ((by rw [hg]; exact (below_size (by repeat (first | (with_reducible first | exact HB.out | apply below_alloc | apply pw_below_drewN | apply below_drew1) | exact HB.out))) : w.heap.size ≤ gb161)); have n3_ := Aside0.mk ((by rw [hg]; exact (below_size (by repeat (first | (with_reducible first | exact HB.out | apply below_alloc | apply pw_below_drewN | apply below_drew1) | exact HB.out))) : w.heap.size ≤ gb161)); clear HB; have HB := n0_; have BK161 := n1_; have GW161 := n2_; have GE161 := n3_; clear n0_ n1_ n2_ n3_; clear hb hbox hg; have hcz19_0 : w18.cell? ⟨gb161, 0, none⟩ = some (.int .i64 0) := (blk_cell BK161.out 0).trans rfl; have hcz19_1 : w18.cell? ⟨gb161, 1, none⟩ = some (.slice none 0 0) := (blk_cell BK161.out 1).trans rfl; have hfz19_0 := blk_frozen BK161.out 0; have hfz19_1 := blk_frozen BK161.out 1; have p162 : 0 ≤ (0 : Int) := (by omega); have q162 : 0 < (l0.length : Int) := of_decide_eq_true (by first | (with_reducible assumption) | assumption); obtain ⟨ad162, A162_1, c162_1, e162, hx162_0, hx162_1, hl162_1, hi162_1⟩ := at_T31 HR0.out 0 p162 q162; obtain rfl : ad160 = ad162 := (by injection e162); have qi162 : (0 < l0.length) = True := eq_true (by omega); (try rw [show ((0 : Int)).toNat = 0 from rfl] at hx162_0); (try rw [show 0 * 2 = 0 from rfl] at hx162_0); (try rw [Addr.add_zero'] at hx162_0); (try rw [show ((0 : Int)).toNat = 0 from rfl] at hx162_1); (try rw [show 0 * 2 = 0 from rfl] at hx162_1); (try rw [Addr.add_zero'] at hx162_1); have hn162_0 : ad160.block ≠ gb161 := Nat.ne_of_lt (Nat.lt_of_lt_of_le (by have := World.block_lt_of_cell? _ _ hx162_0; first | rwa [add_block] at this | exact this) GW161.out); have hn162_1 : ad160.block ≠ gb161 := Nat.ne_of_lt (Nat.lt_of_lt_of_le (by have := World.block_lt_of_cell? _ _ hx162_0; first | rwa [add_block] at this | exact this) GW161.out); replace hx162_0 := (HB.out.cell (World.block_lt_of_cell? w _ hx162_0)).trans hx162_0; replace hx162_1 := (HB.out.cell (World.block_lt_of_cell? w _ hx162_1)).trans hx162_1; have HR162_1 := Aside0.mk hi162_1; have HC162_1 := Aside0.mk hl162_1; clear hi162_1 hl162_1; replace hx162_0 := (cell_far (p := ⟨gb161, 0, none⟩) (by first | (rw [add_block]; exact hn162_0) | (show (Addr.add _ _).block ≠ _; rw [add_block]; exact hn162_0) | exact hn162_0) (.int .i64 ((rd_T31 l0 x19_2).f0))).trans hx162_0; replace hx162_1 := (cell_far (p := ⟨gb161, 0, none⟩) (by first | (rw [add_block]; exact hn162_0) | (show (Addr.add _ _).block ≠ _; rw [add_block]; exact hn162_0) | exact hn162_0) (.int .i64 ((rd_T31 l0 x19_2).f0))).trans hx162_1; replace hx162_0 := (cell_far (p := ⟨gb161, 1, none⟩) (by first | (rw [add_block]; exact hn162_1) | (show (Addr.add _ _).block ≠ _; rw [add_block]; exact hn162_1) | exact hn162_1) (.slice A160_1 ((rd_T31 l0 x19_2).f1).length c160_1)).trans hx162_0; replace hx162_1 := (cell_far (p := ⟨gb161, 1, none⟩) (by first | (rw [add_block]; exact hn162_1) | (show (Addr.add _ _).block ≠ _; rw [add_block]; exact hn162_1) | exact hn162_1) (.slice A160_1 ((rd_T31 l0 x19_2).f1).length c160_1)).trans hx162_1; (try have hy162_0 := fun (n_ : Nat) => (show ((((w18.drewN n_).setCell ⟨gb161, 0, none⟩ (.int .i64 ((rd_T31 l0 x19_2).f0))).setCell ⟨gb161, 1, none⟩ (.slice A160_1 ((rd_T31 l0 x19_2).f1).length c160_1))).cell? _ = some _ from hx162_0)); (try have hy162_1 := fun (n_ : Nat) => (show ((((w18.drewN n_).setCell ⟨gb161, 0, none⟩ (.int .i64 ((rd_T31 l0 x19_2).f0))).setCell ⟨gb161, 1, none⟩ (.slice A160_1 ((rd_T31 l0 x19_2).f1).length c160_1))).cell? _ = some _ from hx162_1)); clear hn162_0; clear hn162_1; replace p162 := eq_true p162; replace q162 := eq_true q162)))
                      go_roundg k2
                      case measure => have := HK1.out; have := HK2.out; omega
                      case rel => exact ⟨(wrap64 (x19_2 + 1)), (by first | rfl | (simp; done) | (simp [*]; done) | (simp [wrap64]; done)), H', ⟨by have := HK1.out; have := HK2.out; omega⟩, ⟨by repeat (first | (with_reducible first | exact HB.out | apply below_alloc | apply pw_below_drewN | apply below_drew1 | refine below_set ?_ GE161.out) | exact HB.out)⟩⟩
                    · rw [if_neg c17] at H
                      have c17b0 : (((rd_T31 l0 x19_2).f0) == ((rd_T31 l0 0).f0)) = false := beq_eq_false_iff_ne.mpr c17
                      have c17b1 : (((rd_T31 l0 x19_2).f0) != ((rd_T31 l0 0).f0)) = true := bne_iff_ne.mpr c17
                      obtain rfl := Option.some.inj H
                      have p160 : 0 ≤ (x19_2 : Int) := of_decide_eq_true (by first | (with_reducible assumption) | assumption)
                      have q160 : x19_2 < (l0.length : Int) := of_decide_eq_true (by first | (with_reducible assumption) | assumption)
                      obtain ⟨ad160, A160_1, c160_1, e160, hx160_0, hx160_1, hl160_1, hi160_1⟩ := at_T31 HR0.out x19_2 p160 q160
                      cases e160
                      replace hx160_0 := (HB.out.cell (World.block_lt_of_cell? w _ hx160_0)).trans hx160_0
                      replace hx160_1 := (HB.out.cell (World.block_lt_of_cell? w _ hx160_1)).trans hx160_1
                      have HR160_1 := Aside0.mk hi160_1
                      have HC160_1 := Aside0.mk hl160_1
                      clear hi160_1 hl160_1
                      replace p160 := eq_true p160
                      replace q160 := eq_true q160
                      go_wp2_with (first | ((with_reducible refine gate_dst (N := 6) rfl ?_); refine box_event ?hg (N := 6) ?hd (cs := #[.int .i64 0, .slice none 0 0]) (t := 31) ?hr ?_; (case hd => rfl); (case hg => rfl); (case hr => first | (go_simp; done) | (go_simp; rfl)); intro gb161 hg w20 hbox hb; have n0_ := Aside0.mk (below_step (by repeat (first | (with_reducible first | exact HB.out | apply below_alloc | apply pw_below_drewN | apply below_drew1) | exact HB.out)) hb); have n1_ := Aside0.mk (hbox); have n2_ := Aside0.mk ((by rw [hg]; exact (below_size (by repeat (first | (with_reducible first | exact HB.out | apply below_alloc | apply pw_below_drewN | apply below_drew1) | exact HB.out))) : w.heap.size ≤ gb161)); have n3_ := Aside0.mk ((by rw [hg]; exact (below_size (by repeat (first | (with_reducible first | exact HB.out | apply below_alloc | apply pw_below_drewN | apply below_drew1) | exact HB.out))) : w.heap.size ≤ gb161)); clear HB; have HB := n0_; have BK161 := n1_; have GW161 := n2_; have GE161 := n3_; clear n0_ n1_ n2_ n3_; clear hb hbox hg; have hcz21_0 : w20.cell? ⟨gb161, 0, none⟩ = some (.int .i64 0) := (blk_cell BK161.out 0).trans rfl; have hcz21_1 : w20.cell? ⟨gb161, 1, none⟩ = some (.slice none 0 0) := (blk_cell BK161.out 1).trans rfl; have hfz21_0 := blk_frozen BK161.out 0; have hfz21_1 := blk_frozen BK161.out 1; have p162 : 0 ≤ (0 : Int) := (by omega); have q162 : 0 < (l0.length : Int) := of_decide_eq_true (by first | (with_reducible assumption) | assumption); obtain ⟨ad162, A162_1, c162_1, e162, hx162_0, hx162_1, hl162_1, hi162_1⟩ := at_T31 HR0.out 0 p162 q162; obtain rfl : ad160 = ad162 := (by injection e162); have qi162 : (0 < l0.length) = True := eq_true (by omega); (try rw [show ((0 : Int)).toNat = 0 from rfl] at hx162_0); (try rw [show 0 * 2 = 0 from rfl] at hx162_0); (try rw [Addr.add_zero'] at hx162_0); (try rw [show ((0 : Int)).toNat = 0 from rfl] at hx162_1); (try rw [show 0 * 2 = 0 from rfl] at hx162_1); (try rw [Addr.add_zero'] at hx162_1); have hn162_0 : ad160.block ≠ gb161 := Nat.ne_of_lt (Nat.lt_of_lt_of_le (by have := World.block_lt_of_cell? _ _ hx162_0; first | rwa [add_block] at this | exact this) GW161.out); have hn162_1 : ad160.block ≠ gb161 := Nat.ne_of_lt (Nat.lt_of_lt_of_le (by have := World.block_lt_of_cell? _ _ hx162_0; first | rwa [add_block] at this | exact this) GW161.out); replace hx162_0 := (HB.out.cell (World.block_lt_of_cell? w _ hx162_0)).trans hx162_0; replace hx162_1 := (HB.out.cell (World.block_lt_of_cell? w _ hx162_1)).trans hx162_1; have HR162_1 := Aside0.mk hi162_1; have HC162_1 := Aside0.mk hl162_1; clear hi162_1 hl162_1; replace hx162_0 := (cell_far (p := ⟨gb161, 0, none⟩) (by first | (rw [add_block]; exact hn162_0) | (show (Addr.add _ _).block ≠ _; rw [add_block]; exact hn162_0) | exact hn162_0) (.int .i64 ((rd_T31 l0 x19_2).f0))).trans hx162_0; replace hx162_1 := (cell_far (p := ⟨gb161, 0, none⟩) (by first | (rw [add_block]; exact hn162_0) | (show (Addr.add _ _).block ≠ _; rw [add_block]; exact hn162_0) | exact hn162_0) (.int .i64 ((rd_T31 l0 x19_2).f0))).trans hx162_1; replace hx162_0 := (cell_far (p := ⟨gb161, 1, none⟩) (by first | (rw [add_block]; exact hn162_1) | (show (Addr.add _ _).block ≠ _; rw [add_block]; exact hn162_1) | exact hn162_1) (.slice A160_1 ((rd_T31 l0 x19_2).f1).length c160_1)).trans hx162_0; replace hx162_1 := (cell_far (p := ⟨gb161, 1, none⟩) (by first | (rw [add_block]; exact hn162_1) | (show (Addr.add _ _).block ≠ _; rw [add_block]; exact hn162_1) | exact hn162_1) (.slice A160_1 ((rd_T31 l0 x19_2).f1).length c160_1)).trans hx162_1; (try have hy162_0 := fun (n_ : Nat) => (show ((((w20.drewN n_).setCell ⟨gb161, 0, none⟩ (.int .i64 ((rd_T31 l0 x19_2).f0))).setCell ⟨gb161, 1, none⟩ (.slice A160_1 ((rd_T31 l0 x19_2).f1).length c160_1))).cell? _ = some _ from hx162_0)); (try have hy162_1 := fun (n_ : Nat) => (show ((((w20.drewN n_).setCell ⟨gb161, 0, none⟩ (.int .i64 ((rd_T31 l0 x19_2).f0))).setCell ⟨gb161, 1, none⟩ (.slice A160_1 ((rd_T31 l0 x19_2).f1).length c160_1))).cell? _ = some _ from hx162_1)); clear hn162_0; clear hn162_1; replace p162 := eq_true p162; replace q162 := eq_true q162))
                      repeat (go_quiet (first | ((with_reducible refine gate_dst (N := 6) rfl ?_); refine box_event ?hg (N := 6) ?hd (cs := #[.int .i64 0, .slice none 0 0]) (t := 31) ?hr ?_; (case hd => rfl); (case hg => rfl); (case hr => first | (go_simp; done) | (go_simp; rfl)); intro gb161 hg w20 hbox hb; have n0_ := Aside0.mk (below_step (by repeat (first | (with_reducible first | exact HB.out | apply below_alloc | apply pw_below_drewN | apply below_drew1) | exact HB.out)) hb); have n1_ := Aside0.mk (hbox); have n2_ := Aside0.mk ((by rw [hg]; exact (below_size (by repeat (first | (with_reducible first | exact HB.out | apply below_alloc | apply pw_below_drewN | apply below_drew1) | exact HB.out))) : w.heap.size ≤ gb161)); have n3_ := Aside0.mk ((by rw [hg]; exact (below_size (by repeat (first | (with_reducible first | exact HB.out | apply below_alloc | apply pw_below_drewN | apply below_drew1) | exact HB.out))) : w.heap.size ≤ gb161)); clear HB; have HB := n0_; have BK161 := n1_; have GW161 := n2_; have GE161 := n3_; clear n0_ n1_ n2_ n3_; clear hb hbox hg; have hcz21_0 : w20.cell? ⟨gb161, 0, none⟩ = some (.int .i64 0) := (blk_cell BK161.out 0).trans rfl; have hcz21_1 : w20.cell? ⟨gb161, 1, none⟩ = some (.slice none 0 0) := (blk_cell BK161.out 1).trans rfl; have hfz21_0 := blk_frozen BK161.out 0; have hfz21_1 := blk_frozen BK161.out 1; have p162 : 0 ≤ (0 : Int) := (by omega); have q162 : 0 < (l0.length : Int) := of_decide_eq_true (by first | (with_reducible assumption) | assumption); obtain ⟨ad162, A162_1, c162_1, e162, hx162_0, hx162_1, hl162_1, hi162_1⟩ := at_T31 HR0.out 0 p162 q162; obtain rfl : ad160 = ad162 := (by injection e162); have qi162 : (0 < l0.length) = True := eq_true (by omega); (try rw [show ((0 : Int)).toNat = 0 from rfl] at hx162_0); (try rw [show 0 * 2 = 0 from rfl] at hx162_0); (try rw [Addr.add_zero'] at hx162_0); (try rw [show ((0 : Int)).toNat = 0 from rfl] at hx162_1); (try rw [show 0 * 2 = 0 from rfl] at hx162_1); (try rw [Addr.add_zero'] at hx162_1); have hn162_0 : ad160.block ≠ gb161 := Nat.ne_of_lt (Nat.lt_of_lt_of_le (by have := World.block_lt_of_cell? _ _ hx162_0; first | rwa [add_block] at this | exact this) GW161.out); have hn162_1 : ad160.block ≠ gb161 := Nat.ne_of_lt (Nat.lt_of_lt_of_le (by have := World.block_lt_of_cell? _ _ hx162_0; first | rwa [add_block] at this | exact this) GW161.out); replace hx162_0 := (HB.out.cell (World.block_lt_of_cell? w _ hx162_0)).trans hx162_0; replace hx162_1 := (HB.out.cell (World.block_lt_of_cell? w _ hx162_1)).trans hx162_1; have HR162_1 := Aside0.mk hi162_1; have HC162_1 := Aside0.mk hl162_1; clear hi162_1 hl162_1; replace hx162_0 := (cell_far (p := ⟨gb161, 0, none⟩) (by first | (rw [add_block]; exact hn162_0) | (show (Addr.add _ _).block ≠ _; rw [add_block]; exact hn162_0) | exact hn162_0) (.int .i64 ((rd_T31 l0 x19_2).f0))).trans hx162_0; replace hx162_1 := (cell_far (p := ⟨gb161, 0, none⟩) (by first | (rw [add_block]; exact hn162_0) | (show (Addr.add _ _).block ≠ _; rw [add_block]; exact hn162_0) | exact hn162_0) (.int .i64 ((rd_T31 l0 x19_2).f0))).trans hx162_1; replace hx162_0 := (cell_far (p := ⟨gb161, 1, none⟩) (by first | (rw [add_block]; exact hn162_1) | (show (Addr.add _ _).block ≠ _; rw [add_block]; exact hn162_1) | exact hn162_1) (.slice A160_1 ((rd_T31 l0 x19_2).f1).length c160_1)).trans hx162_0; replace hx162_1 := (cell_far (p := ⟨gb161, 1, none⟩) (by first | (rw [add_block]; exact hn162_1) | (show (Addr.add _ _).block ≠ _; rw [add_block]; exact hn162_1) | exact hn162_1) (.slice A160_1 ((rd_T31 l0 x19_2).f1).length c160_1)).trans hx162_1; (try have hy162_0 := fun (n_ : Nat) => (show ((((w20.drewN n_).setCell ⟨gb161, 0, none⟩ (.int .i64 ((rd_T31 l0 x19_2).f0))).setCell ⟨gb161, 1, none⟩ (.slice A160_1 ((rd_T31 l0 x19_2).f1).length c160_1))).cell? _ = some _ from hx162_0)); (try have hy162_1 := fun (n_ : Nat) => (show ((((w20.drewN n_).setCell ⟨gb161, 0, none⟩ (.int .i64 ((rd_T31 l0 x19_2).f0))).setCell ⟨gb161, 1, none⟩ (.slice A160_1 ((rd_T31 l0 x19_2).f1).length c160_1))).cell? _ = some _ from hx162_1)); clear hn162_0; clear hn162_1; replace p162 := eq_true p162; replace q162 := eq_true q162)); try go_wp2_with (first | ((with_reducible refine gate_dst (N := 6) rfl ?_); refine box_event ?hg (N := 6) ?hd (cs := #[.int .i64 0, .slice none 0 0]) (t := 31) ?hr ?_; (case hd => rfl); (case hg => rfl); (case hr => first | (go_simp; done) | (go_simp; rfl)); intro gb161 hg w20 hbox hb; have n0_ := Aside0.mk (below_step (by repeat (first | (with_reducible first | exact HB.out | apply below_alloc | apply pw_below_drewN | apply below_drew1) | exact HB.out)) hb); have n1_ := Aside0.mk (hbox); have n2_ := Aside0.mk ((by rw [hg]; exact (below_size (by repeat (first | (with_reducible first | exact HB.out | apply below_alloc | apply pw_below_drewN | apply below_drew1) | exact HB.out))) : w.heap.size ≤ gb161)); have n3_ := Aside0.mk ((by rw [hg]; exact (below_size (by repeat (first | (with_reducible first | exact HB.out | apply below_alloc | apply pw_below_drewN | apply below_drew1) | exact HB.out))) : w.heap.size ≤ gb161)); clear HB; have HB := n0_; have BK161 := n1_; have GW161 := n2_; have GE161 := n3_; clear n0_ n1_ n2_ n3_; clear hb hbox hg; have hcz21_0 : w20.cell? ⟨gb161, 0, none⟩ = some (.int .i64 0) := (blk_cell BK161.out 0).trans rfl; have hcz21_1 : w20.cell? ⟨gb161, 1, none⟩ = some (.slice none 0 0) := (blk_cell BK161.out 1).trans rfl; have hfz21_0 := blk_frozen BK161.out 0; have hfz21_1 := blk_frozen BK161.out 1; have p162 : 0 ≤ (0 : Int) := (by omega); have q162 : 0 < (l0.length : Int) := of_decide_eq_true (by first | (with_reducible assumption) | assumption); obtain ⟨ad162, A162_1, c162_1, e162, hx162_0, hx162_1, hl162_1, hi162_1⟩ := at_T31 HR0.out 0 p162 q162; obtain rfl : ad160 = ad162 := (by injection e162); have qi162 : (0 < l0.length) = True := eq_true (by omega); (try rw [show ((0 : Int)).toNat = 0 from rfl] at hx162_0); (try rw [show 0 * 2 = 0 from rfl] at hx162_0); (try rw [Addr.add_zero'] at hx162_0); (try rw [show ((0 : Int)).toNat = 0 from rfl] at hx162_1); (try rw [show 0 * 2 = 0 from rfl] at hx162_1); (try rw [Addr.add_zero'] at hx162_1); have hn162_0 : ad160.block ≠ gb161 := Nat.ne_of_lt (Nat.lt_of_lt_of_le (by have := World.block_lt_of_cell? _ _ hx162_0; first | rwa [add_block] at this | exact this) GW161.out); have hn162_1 : ad160.block ≠ gb161 := Nat.ne_of_lt (Nat.lt_of_lt_of_le (by have := World.block_lt_of_cell? _ _ hx162_0; first | rwa [add_block] at this | exact this) GW161.out); replace hx162_0 := (HB.out.cell (World.block_lt_of_cell? w _ hx162_0)).trans hx162_0; replace hx162_1 := (HB.out.cell (World.block_lt_of_cell? w _ hx162_1)).trans hx162_1; have HR162_1 := Aside0.mk hi162_1; have HC162_1 := Aside0.mk hl162_1; clear hi162_1 hl162_1; replace hx162_0 := (cell_far (p := ⟨gb161, 0, none⟩) (by first | (rw [add_block]; exact hn162_0) | (show (Addr.add _ _).block ≠ _; rw [add_block]; exact hn162_0) | exact hn162_0) (.int .i64 ((rd_T31 l0 x19_2).f0))).trans hx162_0; replace hx162_1 := (cell_far (p := ⟨gb161, 0, none⟩) (by first | (rw [add_block]; exact hn162_0) | (show (Addr.add _ _).block ≠ _; rw [add_block]; exact hn162_0) | exact hn162_0) (.int .i64 ((rd_T31 l0 x19_2).f0))).trans hx162_1; replace hx162_0 := (cell_far (p := ⟨gb161, 1, none⟩) (by first | (rw [add_block]; exact hn162_1) | (show (Addr.add _ _).block ≠ _; rw [add_block]; exact hn162_1) | exact hn162_1) (.slice A160_1 ((rd_T31 l0 x19_2).f1).length c160_1)).trans hx162_0; replace hx162_1 := (cell_far (p := ⟨gb161, 1, none⟩) (by first | (rw [add_block]; exact hn162_1) | (show (Addr.add _ _).block ≠ _; rw [add_block]; exact hn162_1) | exact hn162_1) (.slice A160_1 ((rd_T31 l0 x19_2).f1).length c160_1)).trans hx162_1; (try have hy162_0 := fun (n_ : Nat) => (show ((((w20.drewN n_).setCell ⟨gb161, 0, none⟩ (.int .i64 ((rd_T31 l0 x19_2).f0))).setCell ⟨gb161, 1, none⟩ (.slice A160_1 ((rd_T31 l0 x19_2).f1).length c160_1))).cell? _ = some _ from hx162_0)); (try have hy162_1 := fun (n_ : Nat) => (show ((((w20.drewN n_).setCell ⟨gb161, 0, none⟩ (.int .i64 ((rd_T31 l0 x19_2).f0))).setCell ⟨gb161, 1, none⟩ (.slice A160_1 ((rd_T31 l0 x19_2).f1).length c160_1))).cell? _ = some _ from hx162_1)); clear hn162_0; clear hn162_1; replace p162 := eq_true p162; replace q162 := eq_true q162)))
                      go_ret
                      exact ⟨by first | rfl | (simp [errW_none, errW_some] <;> rfl) | (simp [*, errW_none, errW_some] <;> rfl), by repeat (first | (with_reducible first | exact HB.out | apply below_alloc | apply pw_below_drewN | apply below_drew1 | refine below_set ?_ GE161.out) | exact HB.out)⟩
                  · rw [if_neg c16] at H
                    exact absurd H (by simp)
                · rw [if_neg c15] at H
                  exact absurd H (by simp)
              · rw [if_neg c14] at H
                exact absurd H (by simp)
            · rw [if_neg c13] at H
              have c13b0 : decide (x19_2 < (l0.length : Int)) = false := decide_eq_false c13
              clear c13
              obtain rfl := Option.some.inj H
              go_wp2
              repeat (go_quiet (fail); try go_wp2)
              go_ret
              exact ⟨by first | rfl | (simp [errW_none, errW_some] <;> rfl) | (simp [*, errW_none, errW_some] <;> rfl), by repeat (first | (with_reducible first | exact HB.out | apply below_alloc | apply pw_below_drewN | apply below_drew1) | exact HB.out)⟩
end Go.Proofs.Ytlghmadoogblcaa.PW
end
section
namespace Go.Proofs.Ytlghmadoogblcaa.PF
open Go.Proofs.Ytlghmadoogblcaa.PW (S31 z31 k31 k31_open k31_mk k31_openM k31_mkM k31_openF k31_mkF rd_T31 at_T31)
open Go.Proofs.Ytlghmadoogblcaa.PB (vivariumref02_Valid.f vivariumref02_Valid.mono vivariumref02_Valid.calls vivariumref02_Valid.mono_l)
open Go.RowKit Go.Proofs.YtlghmadoogblcaaW.PrintWords Go.Proofs.YtlghmadoogblcaaW.PrintLast Go.Proofs.YtlghmadoogblcaaW.PrintMore
attribute [local go_sem] max2_int min2_int max_two min_two max_three min_three max_four min_four   -- for this text's walks alone
set_option linter.unusedVariables false
set_option linter.unusedSimpArgs false
mutual
def vivariumref02_fits.l0 : Nat → List (S31) → Int → Option (Int)
  | 0, _, _ => none
  | k + 1, x0, x3 => if x3 < (x0.length : Int) then (if 0 ≤ x3 then ((vivariumref02_Valid.f k ((rd_T31 x0 x3).f0) ((rd_T31 x0 x3).f1)).bind fun t106 => (if t106 = true then (vivariumref02_fits.l0 k x0 (wrap64 (x3 + 1))) else (some 20))) else (none)) else (vivariumref02_fits.l1 k x0 1)
def vivariumref02_fits.l1 : Nat → List (S31) → Int → Option (Int)
  | 0, _, _ => none
  | k + 1, x0, x4 => if x4 < (x0.length : Int) then (if 0 ≤ x4 then (if 0 < (x0.length : Int) then (if ((rd_T31 x0 x4).f0) = ((rd_T31 x0 0).f0) then (vivariumref02_fits.l1 k x0 (wrap64 (x4 + 1))) else (some 21)) else (none)) else (none)) else (some 0)
end
def vivariumref02_fits.f (k : Nat) (l0 : List (S31)) : Option (Int) := vivariumref02_fits.l0 k l0 0
set_option maxHeartbeats 8000000 in
set_option maxRecDepth 100000 in
theorem vivariumref02_fits.calls (k : Nat) (A0 : Option Addr) (c0 : Nat) (l0 : List (S31)) (r : Int) (w : World) (hr0 : Kd.C k31 w A0 l0.length l0) (hc0 : l0.length ≤ c0) (h : vivariumref02_fits.f k l0 = some r) :
    Calls Try.prog 54 #[.slice A0 l0.length c0] w fun e w' => e = .returned (.int .i64 r) ∧ Below w.heap.size w w' := by
  have hu31 := Try.underlying31
  have HR0 := Aside0.mk hr0
  have HC0 := Aside0.mk hc0
  clear hr0 hc0
  have HB := Aside0.mk (Below.refl w.heap.size w)
  have H : (vivariumref02_fits.l0 k l0 0) = some r := h
  clear h
  have H' := Aside0.mk H
  clear H
  go_enter Try.func54, Try.ntmps54
  go_wp2
  repeat (go_quiet (fail); try go_wp2)
  go_loopg [3] k (fun kq v3 w' => ∃ (x3_1 : Int), v3 = .int .i64 x3_1 ∧ Aside0 (vivariumref02_fits.l0 kq l0 x3_1 = some r) ∧ Aside0 (kq ≤ k) ∧ Aside0 (Below w.heap.size w w'))
  case atStart => exact ⟨(0), (by first | rfl | (simp; done) | (simp [*]; done) | (simp [wrap64]; done)), H', ⟨Nat.le_refl _⟩, ⟨by repeat (first | (with_reducible first | exact HB.out | apply below_alloc | apply pw_below_drewN | apply below_drew1) | exact HB.out)⟩⟩
  case round =>
    clear H'
    obtain ⟨x3_1, rfl, HA, HK1, HB⟩ := hrel
    cases gk with
    | zero => exact absurd HA.out (by simp [vivariumref02_fits.l0])
    | succ k1 =>
      have H := HA.out
      clear HA
      simp only [vivariumref02_fits.l0] at H
      by_cases c2 : x3_1 < (l0.length : Int)
      · rw [if_pos c2] at H
        have c2b0 : decide (x3_1 < (l0.length : Int)) = true := decide_eq_true c2
        clear c2
        by_cases c3 : 0 ≤ x3_1
        · rw [if_pos c3] at H
          have c3b0 : decide (0 ≤ x3_1) = true := decide_eq_true c3
          clear c3
          replace H := Option.bind_eq_some_iff.mp H
          obtain ⟨t106, A40, H⟩ := H
          replace H : (if t106 = true then (vivariumref02_fits.l0 k1 l0 (wrap64 (x3_1 + 1))) else (some 20)) = some r := H
          have A4 := Aside0.mk A40
          clear A40
          by_cases c5 : t106 = true
          · subst c5
            have H1 : (vivariumref02_fits.l0 k1 l0 (wrap64 (x3_1 + 1))) = some r := by rw [if_pos rfl] at H; exact H
            clear H
            have H := H1
            clear H1
            have H' := Aside0.mk H
            clear H
            have p105 : 0 ≤ (x3_1 : Int) := of_decide_eq_true (by first | (with_reducible assumption) | assumption)
            have q105 : x3_1 < (l0.length : Int) := of_decide_eq_true (by first | (with_reducible assumption) | assumption)
            obtain ⟨ad105, A105_1, c105_1, e105, hx105_0, hx105_1, hl105_1, hi105_1⟩ := at_T31 HR0.out x3_1 p105 q105
            cases e105
            replace hx105_0 := (HB.out.cell (World.block_lt_of_cell? w _ hx105_0)).trans hx105_0
            replace hx105_1 := (HB.out.cell (World.block_lt_of_cell? w _ hx105_1)).trans hx105_1
            have HR105_1 := Aside0.mk hi105_1
            have HC105_1 := Aside0.mk hl105_1
            clear hi105_1 hl105_1
            replace p105 := eq_true p105
            replace q105 := eq_true q105
            go_wp2_with (first | (go_at_call 26; (with_reducible refine (vivariumref02_Valid.calls k1 ((rd_T31 l0 x3_1).f0) _ _ ((rd_T31 l0 x3_1).f1) true _ ?side1 ?side2 A4.out).mono ?_); (case side1 => repeat (first | exact (Kd.C_below HR105_1.out HB.out) | (with_reducible refine Kd.C_alloc ?_ _) | (with_reducible refine Kd.C_drewN ?_ _) | (with_reducible refine Kd.C_drew ?_))); (case side2 => exact HC105_1.out); rintro e w6 ⟨rfl, hb⟩; have n0_ := Aside0.mk (below_step (by repeat (first | (with_reducible first | exact HB.out | apply below_alloc | apply pw_below_drewN | apply below_drew1) | exact HB.out)) hb); clear HB; have HB := n0_; clear n0_; (try clear hb); (try clear hb2); (try clear hk); (try clear hi)))
            repeat (go_quiet (first | (go_at_call 26; (with_reducible refine (vivariumref02_Valid.calls k1 ((rd_T31 l0 x3_1).f0) _ _ ((rd_T31 l0 x3_1).f1) true _ ?side1 ?side2 A4.out).mono ?_); (case side1 => repeat (first | exact (Kd.C_below HR105_1.out HB.out) | (with_reducible refine Kd.C_alloc ?_ _) | (with_reducible refine Kd.C_drewN ?_ _) | (with_reducible refine Kd.C_drew ?_))); (case side2 => exact HC105_1.out); rintro e w6 ⟨rfl, hb⟩; have n0_ := Aside0.mk (below_step (by repeat (first | (with_reducible first | exact HB.out | apply below_alloc | apply pw_below_drewN | apply below_drew1) | exact HB.out)) hb); clear HB; have HB := n0_; clear n0_; (try clear hb); (try clear hb2); (try clear hk); (try clear hi))); try go_wp2_with (first | (go_at_call 26; (with_reducible refine (vivariumref02_Valid.calls k1 ((rd_T31 l0 x3_1).f0) _ _ ((rd_T31 l0 x3_1).f1) true _ ?side1 ?side2 A4.out).mono ?_); (case side1 => repeat (first | exact (Kd.C_below HR105_1.out HB.out) | (with_reducible refine Kd.C_alloc ?_ _) | (with_reducible refine Kd.C_drewN ?_ _) | (with_reducible refine Kd.C_drew ?_))); (case side2 => exact HC105_1.out); rintro e w6 ⟨rfl, hb⟩; have n0_ := Aside0.mk (below_step (by repeat (first | (with_reducible first | exact HB.out | apply below_alloc | apply pw_below_drewN | apply below_drew1) | exact HB.out)) hb); clear HB; have HB := n0_; clear n0_; (try clear hb); (try clear hb2); (try clear hk); (try clear hi))))
            go_roundg k1
            case measure => have := HK1.out; omega
            case rel => exact ⟨(wrap64 (x3_1 + 1)), (by first | rfl | (simp; done) | (simp [*]; done) | (simp [wrap64]; done)), H', ⟨by have := HK1.out; omega⟩, ⟨by repeat (first | (with_reducible first | exact HB.out | apply below_alloc | apply pw_below_drewN | apply below_drew1) | exact HB.out)⟩⟩
          · replace c5 := Bool.eq_false_iff.mpr c5
            subst c5
            have H1 : (some 20) = some r := by rw [if_neg (show ¬ (false = true) by decide)] at H; exact H
            clear H
            have H := H1
            clear H1
            obtain rfl := Option.some.inj H
            have p105 : 0 ≤ (x3_1 : Int) := of_decide_eq_true (by first | (with_reducible assumption) | assumption)
            have q105 : x3_1 < (l0.length : Int) := of_decide_eq_true (by first | (with_reducible assumption) | assumption)
            obtain ⟨ad105, A105_1, c105_1, e105, hx105_0, hx105_1, hl105_1, hi105_1⟩ := at_T31 HR0.out x3_1 p105 q105
            cases e105
            replace hx105_0 := (HB.out.cell (World.block_lt_of_cell? w _ hx105_0)).trans hx105_0
            replace hx105_1 := (HB.out.cell (World.block_lt_of_cell? w _ hx105_1)).trans hx105_1
            have HR105_1 := Aside0.mk hi105_1
            have HC105_1 := Aside0.mk hl105_1
            clear hi105_1 hl105_1
            replace p105 := eq_true p105
            replace q105 := eq_true q105
            go_wp2_with (first | (go_at_call 26; (with_reducible refine (vivariumref02_Valid.calls k1 ((rd_T31 l0 x3_1).f0) _ _ ((rd_T31 l0 x3_1).f1) false _ ?side1 ?side2 A4.out).mono ?_); (case side1 => repeat (first | exact (Kd.C_below HR105_1.out HB.out) | (with_reducible refine Kd.C_alloc ?_ _) | (with_reducible refine Kd.C_drewN ?_ _) | (with_reducible refine Kd.C_drew ?_))); (case side2 => exact HC105_1.out); rintro e w7 ⟨rfl, hb⟩; have n0_ := Aside0.mk (below_step (by repeat (first | (with_reducible first | exact HB.out | apply below_alloc | apply pw_below_drewN | apply below_drew1) | exact HB.out)) hb); clear HB; have HB := n0_; clear n0_; (try clear hb); (try clear hb2); (try clear hk); (try clear hi)))
            repeat (go_quiet (first | (go_at_call 26; (with_reducible refine (vivariumref02_Valid.calls k1 ((rd_T31 l0 x3_1).f0) _ _ ((rd_T31 l0 x3_1).f1) false _ ?side1 ?side2 A4.out).mono ?_); (case side1 => repeat (first | exact (Kd.C_below HR105_1.out HB.out) | (with_reducible refine Kd.C_alloc ?_ _) | (with_reducible refine Kd.C_drewN ?_ _) | (with_reducible refine Kd.C_drew ?_))); (case side2 => exact HC105_1.out); rintro e w7 ⟨rfl, hb⟩; have n0_ := Aside0.mk (below_step (by repeat (first | (with_reducible first | exact HB.out | apply below_alloc | apply pw_below_drewN | apply below_drew1) | exact HB.out)) hb); clear HB; have HB := n0_; clear n0_; (try clear hb); (try clear hb2); (try clear hk); (try clear hi))); try go_wp2_with (first | (go_at_call 26; (with_reducible refine (vivariumref02_Valid.calls k1 ((rd_T31 l0 x3_1).f0) _ _ ((rd_T31 l0 x3_1).f1) false _ ?side1 ?side2 A4.out).mono ?_); (case side1 => repeat (first | exact (Kd.C_below HR105_1.out HB.out) | (with_reducible refine Kd.C_alloc ?_ _) | (with_reducible refine Kd.C_drewN ?_ _) | (with_reducible refine Kd.C_drew ?_))); (case side2 => exact HC105_1.out); rintro e w7 ⟨rfl, hb⟩; have n0_ := Aside0.mk (below_step (by repeat (first | (with_reducible first | exact HB.out | apply below_alloc | apply pw_below_drewN | apply below_drew1) | exact HB.out)) hb); clear HB; have HB := n0_; clear n0_; (try clear hb); (try clear hb2); (try clear hk); (try clear hi))))
            go_ret
            exact ⟨by first | rfl | (simp [errW_none, errW_some] <;> rfl) | (simp [*, errW_none, errW_some] <;> rfl), by repeat (first | (with_reducible first | exact HB.out | apply below_alloc | apply pw_below_drewN | apply below_drew1) | exact HB.out)⟩
        · rw [if_neg c3] at H
          exact absurd H (by simp)
      · rw [if_neg c2] at H
        have c2b0 : decide (x3_1 < (l0.length : Int)) = false := decide_eq_false c2
        clear c2
        have H' := Aside0.mk H
        clear H
        go_wp2
        repeat (go_quiet (fail); try go_wp2)
        go_loopg [4] k1 (fun kq v4 w' => ∃ (x4_2 : Int), v4 = .int .i64 x4_2 ∧ Aside0 (vivariumref02_fits.l1 kq l0 x4_2 = some r) ∧ Aside0 (kq ≤ k1) ∧ Aside0 (Below w.heap.size w w'))
        case atStart => exact ⟨(1), (by first | rfl | (simp; done) | (simp [*]; done) | (simp [wrap64]; done)), H', ⟨Nat.le_refl _⟩, ⟨by repeat (first | (with_reducible first | exact HB.out | apply below_alloc | apply pw_below_drewN | apply below_drew1) | exact HB.out)⟩⟩
        case round =>
          clear H'
          try clear c1
          try clear p1
          try clear q1
          try clear hx1
          try clear c2
          try clear c2b0
          try clear p2
          try clear c3
          try clear c3b0
          try clear c5
          try clear p6
          try clear hx105_0
          try clear hx105_1
          try clear p105
          try clear q105
          obtain ⟨x4_2, rfl, HA, HK2, HB⟩ := hrel
          cases gk with
          | zero => exact absurd HA.out (by simp [vivariumref02_fits.l1])
          | succ k2 =>
            have H := HA.out
            clear HA
            simp only [vivariumref02_fits.l1] at H
            by_cases c8 : x4_2 < (l0.length : Int)
            · rw [if_pos c8] at H
              have c8b0 : decide (x4_2 < (l0.length : Int)) = true := decide_eq_true c8
              clear c8
              by_cases c9 : 0 ≤ x4_2
              · rw [if_pos c9] at H
                have c9b0 : decide (0 ≤ x4_2) = true := decide_eq_true c9
                clear c9
                by_cases c10 : 0 < (l0.length : Int)
                · rw [if_pos c10] at H
                  have c10b0 : decide (0 < (l0.length : Int)) = true := decide_eq_true c10
                  have c10b1 : decide (0 < l0.length) = true := decide_eq_true (by omega)
                  clear c10
                  by_cases c11 : ((rd_T31 l0 x4_2).f0) = ((rd_T31 l0 0).f0)
                  · rw [if_pos c11] at H
                    have c11b0 : (((rd_T31 l0 x4_2).f0) == ((rd_T31 l0 0).f0)) = true := beq_iff_eq.mpr c11
                    have c11b1 : (((rd_T31 l0 x4_2).f0) != ((rd_T31 l0 0).f0)) = false := bne_eq_false_iff_eq.mpr c11
                    clear c11
                    have H' := Aside0.mk H
                    clear H
                    have p107 : 0 ≤ (x4_2 : Int) := of_decide_eq_true (by first | (with_reducible assumption) | assumption)
                    have q107 : x4_2 < (l0.length : Int) := of_decide_eq_true (by first | (with_reducible assumption) | assumption)
                    obtain ⟨ad107, A107_1, c107_1, e107, hx107_0, hx107_1, hl107_1, hi107_1⟩ := at_T31 HR0.out x4_2 p107 q107
                    cases e107
                    replace hx107_0 := (HB.out.cell (World.block_lt_of_cell? w _ hx107_0)).trans hx107_0
                    replace hx107_1 := (HB.out.cell (World.block_lt_of_cell? w _ hx107_1)).trans hx107_1
                    have HR107_1 := Aside0.mk hi107_1
                    have HC107_1 := Aside0.mk hl107_1
                    clear hi107_1 hl107_1
                    replace p107 := eq_true p107
                    replace q107 := eq_true q107
                    have p108 : 0 ≤ (0 : Int) := (by omega)
                    have q108 : 0 < (l0.length : Int) := of_decide_eq_true (by first | (with_reducible assumption) | assumption)
                    obtain ⟨ad108, A108_1, c108_1, e108, hx108_0, hx108_1, hl108_1, hi108_1⟩ := at_T31 HR0.out 0 p108 q108
                    obtain rfl : ad107 = ad108 := (by injection e108)
                    have qi108 : (0 < l0.length) = True := eq_true (by omega)
                    (try rw [show ((0 : Int)).toNat = 0 from rfl] at hx108_0)
                    (try rw [show 0 * 2 = 0 from rfl] at hx108_0)
                    (try rw [Addr.add_zero'] at hx108_0)
                    (try rw [show ((0 : Int)).toNat = 0 from rfl] at hx108_1)
                    (try rw [show 0 * 2 = 0 from rfl] at hx108_1)
                    (try rw [Addr.add_zero'] at hx108_1)
                    replace hx108_0 := (HB.out.cell (World.block_lt_of_cell? w _ hx108_0)).trans hx108_0
                    replace hx108_1 := (HB.out.cell (World.block_lt_of_cell? w _ hx108_1)).trans hx108_1
                    have HR108_1 := Aside0.mk hi108_1
                    have HC108_1 := Aside0.mk hl108_1
                    clear hi108_1 hl108_1
                    replace p108 := eq_true p108
                    replace q108 := eq_true q108
                    go_wp2
                    repeat (go_quiet (fail); try go_wp2)
                    go_roundg k2
                    case measure => have := HK1.out; have := HK2.out; omega
                    case rel => exact ⟨(wrap64 (x4_2 + 1)), (by first | rfl | (simp; done) | (simp [*]; done) | (simp [wrap64]; done)), H', ⟨by have := HK1.out; have := HK2.out; omega⟩, ⟨by repeat (first | (with_reducible first | exact HB.out | apply below_alloc | apply pw_below_drewN | apply below_drew1) | exact HB.out)⟩⟩
                  · rw [if_neg c11] at H
                    have c11b0 : (((rd_T31 l0 x4_2).f0) == ((rd_T31 l0 0).f0)) = false := beq_eq_false_iff_ne.mpr c11
                    have c11b1 : (((rd_T31 l0 x4_2).f0) != ((rd_T31 l0 0).f0)) = true := bne_iff_ne.mpr c11
                    obtain rfl := Option.some.inj H
                    have p107 : 0 ≤ (x4_2 : Int) := of_decide_eq_true (by first | (with_reducible assumption) | assumption)
                    have q107 : x4_2 < (l0.length : Int) := of_decide_eq_true (by first | (with_reducible assumption) | assumption)
                    obtain ⟨ad107, A107_1, c107_1, e107, hx107_0, hx107_1, hl107_1, hi107_1⟩ := at_T31 HR0.out x4_2 p107 q107
                    cases e107
                    replace hx107_0 := (HB.out.cell (World.block_lt_of_cell? w _ hx107_0)).trans hx107_0
                    replace hx107_1 := (HB.out.cell (World.block_lt_of_cell? w _ hx107_1)).trans hx107_1
                    have HR107_1 := Aside0.mk hi107_1
                    have HC107_1 := Aside0.mk hl107_1
                    clear hi107_1 hl107_1
                    replace p107 := eq_true p107
                    replace q107 := eq_true q107
                    have p108 : 0 ≤ (0 : Int) := (by omega)
                    have q108 : 0 < (l0.length : Int) := of_decide_eq_true (by first | (with_reducible assumption) | assumption)
                    obtain ⟨ad108, A108_1, c108_1, e108, hx108_0, hx108_1, hl108_1, hi108_1⟩ := at_T31 HR0.out 0 p108 q108
                    obtain rfl : ad107 = ad108 := (by injection e108)
                    have qi108 : (0 < l0.length) = True := eq_true (by omega)
                    (try rw [show ((0 : Int)).toNat = 0 from rfl] at hx108_0)
                    (try rw [show 0 * 2 = 0 from rfl] at hx108_0)
                    (try rw [Addr.add_zero'] at hx108_0)
                    (try rw [show ((0 : Int)).toNat = 0 from rfl] at hx108_1)
                    (try rw [show 0 * 2 = 0 from rfl] at hx108_1)
                    (try rw [Addr.add_zero'] at hx108_1)
                    replace hx108_0 := (HB.out.cell (World.block_lt_of_cell? w _ hx108_0)).trans hx108_0
                    replace hx108_1 := (HB.out.cell (World.block_lt_of_cell? w _ hx108_1)).trans hx108_1
                    have HR108_1 := Aside0.mk hi108_1
                    have HC108_1 := Aside0.mk hl108_1
                    clear hi108_1 hl108_1
                    replace p108 := eq_true p108
                    replace q108 := eq_true q108
                    go_wp2
                    repeat (go_quiet (fail); try go_wp2)
                    go_ret
                    exact ⟨by first | rfl | (simp [errW_none, errW_some] <;> rfl) | (simp [*, errW_none, errW_some] <;> rfl), by repeat (first | (with_reducible first | exact HB.out | apply below_alloc | apply pw_below_drewN | apply below_drew1) | exact HB.out)⟩
                · rw [if_neg c10] at H
                  exact absurd H (by simp)
              · rw [if_neg c9] at H
                exact absurd H (by simp)
            · rw [if_neg c8] at H
              have c8b0 : decide (x4_2 < (l0.length : Int)) = false := decide_eq_false c8
              clear c8
              obtain rfl := Option.some.inj H
              go_wp2
              repeat (go_quiet (fail); try go_wp2)
              go_ret
              exact ⟨by first | rfl | (simp [errW_none, errW_some] <;> rfl) | (simp [*, errW_none, errW_some] <;> rfl), by repeat (first | (with_reducible first | exact HB.out | apply below_alloc | apply pw_below_drewN | apply below_drew1) | exact HB.out)⟩
end Go.Proofs.Ytlghmadoogblcaa.PF
end
section
namespace Go.Proofs.Ytlghmadoogblcaa.RefPlain
open Go Go.RowKit Go.Proofs.Ytlghmadoogblcaa.PW Go.Proofs.YtlghmadoogblcaaW.PrintWords Go.Proofs.YtlghmadoogblcaaW.PrintLast Go.Proofs.YtlghmadoogblcaaW.PrintMore Go.Proofs.Ytlghmadoogblcaa.Bits Go.Proofs.Ytlghmadoogblcaa.Rowp
set_option maxRecDepth 100000
set_option linter.unusedVariables false
theorem rd31 (l : List S31) (j : Nat) : rd_T31 l (j : Int) = l.getD j z31 := rfl
theorem fits_l1 (l : List S31) (hlen : l.length ≤ 1000000) : ∀ (d k x : Nat) (xI : Int), xI = x → x + d = l.length → d < k →
    ((∀ j, x ≤ j → j < l.length → (l.getD j z31).f0 = (l.getD 0 z31).f0) ∧ words_fits.l1 k l l (l.length : Int) xI = some 0) ∨ (¬ (∀ j, x ≤ j → j < l.length → (l.getD j z31).f0 = (l.getD 0 z31).f0) ∧ words_fits.l1 k l l (l.length : Int) xI = some 21)
  | 0, k + 1, x, _, rfl, h, _ => .inl ⟨fun j h1 h2 => by omega, by rw [words_fits.l1, if_neg (by omega)]⟩
  | d + 1, k + 1, x, _, rfl, h, hk => by
    rw [words_fits.l1, if_pos (by omega), if_pos (by omega), if_pos (by omega), if_pos (by omega), rd31, show rd_T31 l 0 = l.getD 0 z31 from rfl]
    by_cases e : (l.getD x z31).f0 = (l.getD 0 z31).f0
    · rw [if_pos e, w64 ((x : Int) + 1) (by omega)]
      rcases fits_l1 l hlen d k (x + 1) _ rfl (by omega) (by omega) with ⟨h1, h2⟩ | ⟨h1, h2⟩
      · refine .inl ⟨fun j a b => ?_, by rw [← h2]; rfl⟩
        by_cases hj : j = x
        · rw [hj]; exact e
        · exact h1 j (by omega) b
      · exact .inr ⟨fun q => h1 (fun j a b => q j (by omega) b), by rw [← h2]; rfl⟩
    · rw [if_neg e]
      exact .inr ⟨fun q => e (q x (Nat.le_refl _) (by omega)), rfl⟩
theorem reffits_l1 (l : List S31) (hlen : l.length ≤ 1000000) : ∀ (d k x : Nat) (xI : Int), xI = x → x + d = l.length → d < k →
    ((∀ j, x ≤ j → j < l.length → (l.getD j z31).f0 = (l.getD 0 z31).f0) ∧ PF.vivariumref02_fits.l1 k l xI = some 0) ∨ (¬ (∀ j, x ≤ j → j < l.length → (l.getD j z31).f0 = (l.getD 0 z31).f0) ∧ PF.vivariumref02_fits.l1 k l xI = some 21)
  | 0, k + 1, x, _, rfl, h, _ => .inl ⟨fun j h1 h2 => by omega, by rw [PF.vivariumref02_fits.l1, if_neg (by omega)]⟩
  | d + 1, k + 1, x, _, rfl, h, hk => by
    rw [PF.vivariumref02_fits.l1, if_pos (by omega), if_pos (by omega), if_pos (by omega), rd31, show rd_T31 l 0 = l.getD 0 z31 from rfl]
    by_cases e : (l.getD x z31).f0 = (l.getD 0 z31).f0
    · rw [if_pos e, w64 ((x : Int) + 1) (by omega)]
      rcases reffits_l1 l hlen d k (x + 1) _ rfl (by omega) (by omega) with ⟨h1, h2⟩ | ⟨h1, h2⟩
      · refine .inl ⟨fun j a b => ?_, by rw [← h2]; rfl⟩
        by_cases hj : j = x
        · rw [hj]; exact e
        · exact h1 j (by omega) b
      · exact .inr ⟨fun q => h1 (fun j a b => q j (by omega) b), by rw [← h2]; rfl⟩
    · rw [if_neg e]
      exact .inr ⟨fun q => e (q x (Nat.le_refl _) (by omega)), rfl⟩
def RowOk (x : S31) : Prop := ∃ (m : Nat) (W : Nat → Nat), x = ⟨(m : Int), rowOf (nw m) W⟩ ∧ Rowp.Good m W
theorem row_ok (x : S31) (h : U64 x.f1) : (RowOk x ∧ words_Valid.f x.f0 x.f1 = some true ∧ ∀ k, 70000 < k → PB.vivariumref02_Valid.f k x.f0 x.f1 = some true) ∨ (¬ RowOk x ∧ words_Valid.f x.f0 x.f1 = some false ∧ ∀ k, 70000 < k → PB.vivariumref02_Valid.f k x.f0 x.f1 = some false) := by
  obtain ⟨n, xs⟩ := x
  rcases row_cases n xs h with ⟨m, W, rfl, rfl, g⟩ | ⟨h1, h2⟩
  · exact .inl ⟨⟨m, W, rfl, g⟩, valid_spec g, fun k hk => refvalid_good g k hk⟩
  · refine .inr ⟨?_, h1, h2⟩
    rintro ⟨m, W, e, g⟩
    injection e with e1 e2
    subst e1 e2
    have := valid_spec g
    rw [this] at h1
    cases h1
theorem fits_l0 (l : List S31) (hlen : l.length ≤ 1000000) (hu : ∀ j, j < l.length → U64 (l.getD j z31).f1) : ∀ (d k x : Nat) (xI : Int), xI = x → x + d = l.length → d < k →
    ((∀ j, x ≤ j → j < l.length → RowOk (l.getD j z31)) ∧ ∃ k', k ≤ k' + d + 1 ∧ words_fits.l0 k l l (l.length : Int) xI = words_fits.l1 k' l l (l.length : Int) 0) ∨ (¬ (∀ j, x ≤ j → j < l.length → RowOk (l.getD j z31)) ∧ words_fits.l0 k l l (l.length : Int) xI = some 20)
  | 0, k + 1, x, _, rfl, h, _ => .inl ⟨fun j h1 h2 => by omega, k, by omega, by rw [words_fits.l0, if_neg (by omega)]⟩
  | d + 1, k + 1, x, _, rfl, h, hk => by
    rw [words_fits.l0, if_pos (by omega), if_pos (by omega), if_pos (by omega), rd31]
    rcases row_ok _ (hu x (by omega)) with ⟨r1, r2, _⟩ | ⟨r1, r2, _⟩
    · rw [r2, Option.bind_some, if_pos rfl, w64 ((x : Int) + 1) (by omega)]
      rcases fits_l0 l hlen hu d k (x + 1) _ rfl (by omega) (by omega) with ⟨h1, k', hk', h2⟩ | ⟨h1, h2⟩
      · refine .inl ⟨fun j a b => ?_, k', by omega, by rw [← h2]; rfl⟩
        by_cases hj : j = x
        · rw [hj]; exact r1
        · exact h1 j (by omega) b
      · exact .inr ⟨fun q => h1 (fun j a b => q j (by omega) b), by rw [← h2]; rfl⟩
    · rw [r2, Option.bind_some, if_neg (by decide)]
      exact .inr ⟨fun q => r1 (q x (Nat.le_refl _) (by omega)), rfl⟩
theorem reffits_l0 (l : List S31) (hlen : l.length ≤ 1000000) (hu : ∀ j, j < l.length → U64 (l.getD j z31).f1) : ∀ (d k x : Nat) (xI : Int), xI = x → x + d = l.length → d + 70001 < k →
    ((∀ j, x ≤ j → j < l.length → RowOk (l.getD j z31)) ∧ ∃ k', k ≤ k' + d + 1 ∧ PF.vivariumref02_fits.l0 k l xI = PF.vivariumref02_fits.l1 k' l 1) ∨ (¬ (∀ j, x ≤ j → j < l.length → RowOk (l.getD j z31)) ∧ PF.vivariumref02_fits.l0 k l xI = some 20)
  | 0, k + 1, x, _, rfl, h, _ => .inl ⟨fun j h1 h2 => by omega, k, by omega, by rw [PF.vivariumref02_fits.l0, if_neg (by omega)]⟩
  | d + 1, k + 1, x, _, rfl, h, hk => by
    rw [PF.vivariumref02_fits.l0, if_pos (by omega), if_pos (by omega), rd31]
    rcases row_ok _ (hu x (by omega)) with ⟨r1, _, r2⟩ | ⟨r1, _, r2⟩
    · rw [r2 k (by omega), Option.bind_some, if_pos rfl, w64 ((x : Int) + 1) (by omega)]
      rcases reffits_l0 l hlen hu d k (x + 1) _ rfl (by omega) (by omega) with ⟨h1, k', hk', h2⟩ | ⟨h1, h2⟩
      · refine .inl ⟨fun j a b => ?_, k', by omega, by rw [← h2]; rfl⟩
        by_cases hj : j = x
        · rw [hj]; exact r1
        · exact h1 j (by omega) b
      · exact .inr ⟨fun q => h1 (fun j a b => q j (by omega) b), by rw [← h2]; rfl⟩
    · rw [r2 k (by omega), Option.bind_some, if_neg (by decide)]
      exact .inr ⟨fun q => r1 (q x (Nat.le_refl _) (by omega)), rfl⟩
theorem fits_agree (l : List S31) (hlen : l.length ≤ 1000000) (hu : ∀ j, j < l.length → U64 (l.getD j z31).f1) (k : Nat) (hk : 3000000 < k) :
    ∃ e, words_fits.f k l = some e ∧ PF.vivariumref02_fits.f k l = some e ∧ (e = 0 → ∃ (m : Nat) (Wf : Nat → Nat → Nat), m ≤ 65538 ∧ ∀ j, j < l.length → l.getD j z31 = ⟨(m : Int), rowOf (nw m) (Wf j)⟩ ∧ Rowp.Good m (Wf j)) := by
  unfold words_fits.f PF.vivariumref02_fits.f
  rcases fits_l0 l hlen hu l.length k 0 0 rfl (by omega) (by omega) with ⟨h1, k1, hk1, e1⟩ | ⟨h1, e1⟩
  · rcases reffits_l0 l hlen hu l.length k 0 0 rfl (by omega) (by omega) with ⟨_, k2, hk2, e2⟩ | ⟨h2, _⟩
    · rw [e1, e2]
      have s1 : ∀ e : Int, (words_fits.l1 k1 l l (l.length : Int) 0 = some e ∧ PF.vivariumref02_fits.l1 k2 l 1 = some e) → (e = 0 → ∀ j, j < l.length → (l.getD j z31).f0 = (l.getD 0 z31).f0) → ∃ e, words_fits.l1 k1 l l (l.length : Int) 0 = some e ∧ PF.vivariumref02_fits.l1 k2 l 1 = some e ∧ (e = 0 → ∃ (m : Nat) (Wf : Nat → Nat → Nat), m ≤ 65538 ∧ ∀ j, j < l.length → l.getD j z31 = ⟨(m : Int), rowOf (nw m) (Wf j)⟩ ∧ Rowp.Good m (Wf j)) := by
        rintro e ⟨a, b⟩ hall
        refine ⟨e, a, b, fun he => ?_⟩
        have hall := hall he
        by_cases hl : l.length = 0
        · exact ⟨0, fun _ _ => 0, by omega, fun j hj => by omega⟩
        · obtain ⟨m, W0, e0, g0⟩ := h1 0 (Nat.le_refl _) (by omega)
          have hx : ∀ j, ∃ W : Nat → Nat, j < l.length → l.getD j z31 = ⟨(m : Int), rowOf (nw m) W⟩ ∧ Rowp.Good m W := by
            intro j
            by_cases hj : j < l.length
            · obtain ⟨m', W, e', g'⟩ := h1 j (Nat.zero_le _) hj
              have h5 := hall j hj
              rw [e', e0] at h5
              have h6 : m' = m := by have h7 : (m' : Int) = (m : Int) := h5; omega
              subst h6
              exact ⟨W, fun _ => ⟨e', g'⟩⟩
            · exact ⟨fun _ => 0, fun h => absurd h hj⟩
          exact ⟨m, fun j => (hx j).choose, g0.le, fun j hj => (hx j).choose_spec hj⟩
      by_cases hl : l.length = 0
      · rcases fits_l1 l hlen l.length k1 0 0 rfl (by omega) (by omega) with ⟨a, b⟩ | ⟨a, b⟩
        · refine s1 0 ⟨b, ?_⟩ (fun _ j hj => by omega)
          obtain ⟨k2, rfl⟩ : ∃ z, k2 = z + 1 := ⟨k2 - 1, by omega⟩
          rw [PF.vivariumref02_fits.l1, if_neg (by omega)]
        · exact absurd (fun j _ hj => by omega) a
      · rcases fits_l1 l hlen l.length k1 0 0 rfl (by omega) (by omega) with ⟨a, b⟩ | ⟨a, b⟩
        · rcases reffits_l1 l hlen (l.length - 1) k2 1 1 rfl (by omega) (by omega) with ⟨c, d⟩ | ⟨c, d⟩
          · exact s1 0 ⟨b, d⟩ (fun _ j hj => a j (Nat.zero_le _) hj)
          · exact absurd (fun j h1 h2 => a j (Nat.zero_le _) h2) c
        · rcases reffits_l1 l hlen (l.length - 1) k2 1 1 rfl (by omega) (by omega) with ⟨c, d⟩ | ⟨c, d⟩
          · refine absurd (fun j h1 h2 => ?_) a
            by_cases hj : j = 0
            · rw [hj]
            · exact c j (by omega) h2
          · exact s1 21 ⟨b, d⟩ (fun h => by cases h)
    · exact absurd h1 h2
  · rcases reffits_l0 l hlen hu l.length k 0 0 rfl (by omega) (by omega) with ⟨h2, _⟩ | ⟨h2, e2⟩
    · exact absurd h2 h1
    · exact ⟨20, e1, e2, fun h => by cases h⟩
end Go.Proofs.Ytlghmadoogblcaa.RefPlain
end
section
namespace Go.Proofs.Ytlghmadoogblcaa.PW
open Go.RowKit Go.Proofs.YtlghmadoogblcaaW.PrintWords Go.Proofs.YtlghmadoogblcaaW.PrintLast Go.Proofs.YtlghmadoogblcaaW.PrintMore
attribute [local go_sem] max2_int min2_int max_two min_two max_three min_three max_four min_four   -- for this text's walks alone
set_option linter.unusedVariables false
set_option linter.unusedSimpArgs false
end Go.Proofs.Ytlghmadoogblcaa.PW
end
section
namespace Go.Proofs.Ytlghmadoogblcaa.PW
open Go.RowKit Go.Proofs.YtlghmadoogblcaaW.PrintWords Go.Proofs.YtlghmadoogblcaaW.PrintLast Go.Proofs.YtlghmadoogblcaaW.PrintMore
attribute [local go_sem] max2_int min2_int max_two min_two max_three min_three max_four min_four   -- for this text's walks alone
set_option linter.unusedVariables false
set_option linter.unusedSimpArgs false
end Go.Proofs.Ytlghmadoogblcaa.PW
end
section
namespace Go.Proofs.Ytlghmadoogblcaa.PW
open Go.RowKit Go.Proofs.YtlghmadoogblcaaW.PrintWords Go.Proofs.YtlghmadoogblcaaW.PrintLast Go.Proofs.YtlghmadoogblcaaW.PrintMore
attribute [local go_sem] max2_int min2_int max_two min_two max_three min_three max_four min_four   -- for this text's walks alone
set_option linter.unusedVariables false
set_option linter.unusedSimpArgs false
end Go.Proofs.Ytlghmadoogblcaa.PW
end
section
namespace Go.Proofs.Ytlghmadoogblcaa.Rowp
open Go Go.RowKit Go.Proofs.Ytlghmadoogblcaa.PW Go.Proofs.YtlghmadoogblcaaW.PrintWords Go.Proofs.YtlghmadoogblcaaW.PrintLast Go.Proofs.YtlghmadoogblcaaW.PrintMore Go.Proofs.Ytlghmadoogblcaa.Bits
set_option maxRecDepth 100000
set_option linter.unusedVariables false
def notW (n : Nat) (W : Nat → Nat) (t : Nat) : Nat := if t + 1 = nw n then (W t ^^^ ones) &&& mask n else W t ^^^ ones
theorem not_loop {n m : Nat} {W : Nat → Nat} (hm : m = nw n) (hle : m ≤ 1025) (hW : ∀ t, t < m → W t < 18446744073709551616) :
    ∀ (j k i : Nat) (iI : Int), iI = (i : Int) → j < k → i + j = m → words_Not.l0 k ((m : Nat) : Int) iI (n : Int) (rowOf m (fun t => if t < i then W t ^^^ ones else W t)) = some ((n : Int), rowOf m (notW n W), 0)
  | 0, k + 1, i, _, rfl, _, h => by
    have hi : i = m := by omega
    subst hi
    rw [words_Not.l0, if_neg (by omega), rowOf_len]
    by_cases h0 : i = 0
    · rw [if_neg (by omega)]
      subst h0; rfl
    · rw [if_pos (by omega), w64 ((i : Int) - 1) (by omega), if_pos (by omega), if_pos (by omega), last_spec]
      simp only [Option.bind_some]
      have e : (i : Int) - 1 = ((i - 1 : Nat) : Int) := by omega
      rw [e, rowOf_rd _ _ _ (by omega), if_pos (by omega), bits_and_u64_nat _ _ (bits_xor_n _ _ (hW _ (by omega)) (by decide)) (mask_lt n), rowOf_set]
      congr 3
      refine rowOf_congr fun t ht => ?_
      unfold notW
      by_cases ht1 : t = i - 1
      · subst ht1; rw [if_pos rfl, if_pos (by omega)]
      · rw [if_neg ht1, if_pos ht, if_neg (by omega)]
  | j + 1, k + 1, i, _, rfl, hk, h => by
    rw [words_Not.l0, if_pos (by omega), if_pos (by omega), rowOf_len, if_pos (by omega), rowOf_rd _ _ _ (by omega), if_neg (by omega),
      show (18446744073709551615 : Int) = ((ones : Nat) : Int) from rfl, bits_xor_u64_nat _ _ (hW _ (by omega)) (by decide), rowOf_set, w64 ((i : Int) + 1) (by omega), show (i : Int) + 1 = ((i + 1 : Nat) : Int) by omega]
    have hc : rowOf m (fun t => if t = i then W i ^^^ ones else if t < i then W t ^^^ ones else W t) = rowOf m (fun t => if t < i + 1 then W t ^^^ ones else W t) := by
      refine rowOf_congr fun t ht => ?_
      by_cases e : t = i
      · subst e; rw [if_pos rfl, if_pos (by omega)]
      · rw [if_neg e]
        by_cases h2 : t < i
        · rw [if_pos h2, if_pos (by omega)]
        · rw [if_neg h2, if_neg (by omega)]
    exact (congrArg (words_Not.l0 k ((m : Nat) : Int) _ (n : Int)) hc).trans (not_loop hm hle hW j k (i + 1) _ rfl (by omega) (by omega))
theorem not_spec {n : Nat} {W : Nat → Nat} (g : Good n W) (k : Nat) (hk : 1025 < k) : words_Not.f k (n : Int) (rowOf (nw n) W) = some ((n : Int), rowOf (nw n) (notW n W), 0) := by
  have hm : nw n ≤ 1025 := by have := g.le; unfold nw; omega
  unfold words_Not.f
  rw [valid_spec g]
  rw [Option.bind_some, if_pos rfl]
  rw [clone_spec n g.le _ (rowOf_len _ _)]
  rw [Option.bind_some]
  have h := not_loop (n := n) (m := nw n) rfl hm g.lt (nw n) k 0 0 rfl (by omega) (by omega)
  rw [rowOf_congr (W' := W) (fun t ht => if_neg (Nat.not_lt_zero t))] at h
  rw [rowOf_len]
  exact h
end Go.Proofs.Ytlghmadoogblcaa.Rowp
end
section
namespace Go.Proofs.Ytlghmadoogblcaa.Rowp
open Go Go.RowKit Go.Proofs.Ytlghmadoogblcaa.PW Go.Proofs.YtlghmadoogblcaaW.PrintWords Go.Proofs.YtlghmadoogblcaaW.PrintLast Go.Proofs.YtlghmadoogblcaaW.PrintMore Go.Proofs.Ytlghmadoogblcaa.Bits
set_option maxRecDepth 100000
set_option linter.unusedVariables false
theorem good_not {n : Nat} {A : Nat → Nat} (ga : Good n A) : Good n (notW n A) := by
  refine ⟨ga.le, fun i hi => ?_, fun h => ?_⟩
  · unfold notW
    split
    · exact bits_and_n _ _ (bits_xor_n _ _ (ga.lt i hi) (by decide)) (mask_lt n)
    · exact bits_xor_n _ _ (ga.lt i hi) (by decide)
  · unfold notW
    have : nw n - 1 + 1 = nw n := by unfold nw; omega
    rw [if_pos this, Nat.and_assoc, Nat.and_self]
end Go.Proofs.Ytlghmadoogblcaa.Rowp
end
section
namespace Go.Proofs.Ytlghmadoogblcaa.PB
open Go.RowKit Go.Proofs.YtlghmadoogblcaaW.PrintWords Go.Proofs.YtlghmadoogblcaaW.PrintLast Go.Proofs.YtlghmadoogblcaaW.PrintMore
attribute [local go_sem] max2_int min2_int max_two min_two max_three min_three max_four min_four   -- for this text's walks alone
set_option linter.unusedVariables false
set_option linter.unusedSimpArgs false
end Go.Proofs.Ytlghmadoogblcaa.PB
end
section
namespace Go.Proofs.Ytlghmadoogblcaa.PB
open Go.RowKit Go.Proofs.YtlghmadoogblcaaW.PrintWords Go.Proofs.YtlghmadoogblcaaW.PrintLast Go.Proofs.YtlghmadoogblcaaW.PrintMore
attribute [local go_sem] max2_int min2_int max_two min_two max_three min_three max_four min_four   -- for this text's walks alone
set_option linter.unusedVariables false
set_option linter.unusedSimpArgs false
end Go.Proofs.Ytlghmadoogblcaa.PB
end
section
namespace Go.Proofs.Ytlghmadoogblcaa.RefPlain
open Go Go.RowKit Go.Proofs.Ytlghmadoogblcaa.PW Go.Proofs.Ytlghmadoogblcaa.PB Go.Proofs.YtlghmadoogblcaaW.PrintWords Go.Proofs.YtlghmadoogblcaaW.PrintLast Go.Proofs.YtlghmadoogblcaaW.PrintMore Go.Proofs.Ytlghmadoogblcaa.Bits Go.Proofs.Ytlghmadoogblcaa.Rowp
set_option maxRecDepth 100000
set_option linter.unusedVariables false
def doneTo (n x : Nat) (f g : Nat → Bool) : List Bool := (List.range n).map fun i => if i < x then f i else g i
theorem doneTo_len (n x : Nat) (f g : Nat → Bool) : (doneTo n x f g).length = n := by simp [doneTo]
theorem doneTo_get {n x i : Nat} (f g : Nat → Bool) (h : i < n) : (doneTo n x f g)[i]? = some (if i < x then f i else g i) := by simp [doneTo, h]
theorem doneTo_set {n x : Nat} (f g : Nat → Bool) (h : x < n) : (doneTo n x f g).set x (f x) = doneTo n (x + 1) f g := by
  apply List.ext_getElem?
  intro i
  rw [List.getElem?_set]
  by_cases hi : i < n
  · rw [doneTo_get f g hi, doneTo_get f g hi]
    by_cases e : x = i
    · subst e
      rw [if_pos rfl, if_pos (by rw [doneTo_len]; exact h), if_pos (by omega)]
    · rw [if_neg e]
      by_cases h2 : i < x
      · rw [if_pos h2, if_pos (by omega)]
      · rw [if_neg h2, if_neg (by omega)]
  · have e : x ≠ i := by omega
    rw [if_neg e, List.getElem?_eq_none (by rw [doneTo_len]; omega), List.getElem?_eq_none (by rw [doneTo_len]; omega)]
theorem doneTo_zero (n : Nat) (f : Nat → Bool) : doneTo n 0 f (fun _ => false) = List.replicate n false := by
  apply List.ext_getElem?
  intro i
  by_cases h : i < n
  · simp [doneTo, h]
  · simp [doneTo, h]
theorem row_done {n : Nat} (hn : n ≤ 65538) (f g : Nat → Bool) : ∃ V, Rowp.Good n V ∧ (∀ i, i < n → bitAt V i = f i) ∧ ∀ k, 70000 < k → vivariumref02_Row.f k (doneTo n n f g) = some ((n : Int), rowOf (nw n) V) := by
  have hl : (doneTo n n f g).length = n := doneTo_len _ _ _ _
  obtain ⟨V, gV, hb, hr⟩ := row_spec (l := doneTo n n f g) (by omega) 70001 (by omega)
  rw [hl] at gV hb hr
  refine ⟨V, gV, fun i hi => ?_, fun k hk => at_rounds (g := fun k => vivariumref02_Row.f k (doneTo n n f g)) (fun k => vivariumref02_Row.mono _ k) (show 70001 ≤ k by omega) hr⟩
  rw [hb i hi, List.getD_eq_getElem?_getD, doneTo_get f g hi, if_pos hi]
  rfl
theorem bitAt_not {n : Nat} (A : Nat → Nat) (i : Nat) (hi : i < n) : bitAt (notW n A) i = !bitAt A i := by
  have hb : i % 64 < 64 := Nat.mod_lt _ (by decide)
  unfold bitAt notW
  split
  · rename_i h
    rw [Nat.testBit_and, Nat.testBit_xor, ones_bit, decide_eq_true hb, mask_bit]
    have : (if n % 64 = 0 then decide (i % 64 < 64) else decide (i % 64 < n % 64)) = true := by
      split
      · exact decide_eq_true hb
      · refine decide_eq_true ?_
        unfold nw at h
        omega
    rw [this]
    simp
  · rw [Nat.testBit_xor, ones_bit, decide_eq_true hb]
    simp
end Go.Proofs.Ytlghmadoogblcaa.RefPlain
end
section
namespace Go.Proofs.Ytlghmadoogblcaa.CountWalk
open Go Go.RowKit Go.Proofs.YtlghmadoogblcaaW.PrintWords Go.Proofs.YtlghmadoogblcaaW.PrintLast Go.Proofs.YtlghmadoogblcaaW.PrintMore Go.Proofs.Ytlghmadoogblcaa.PW Go.Proofs.Ytlghmadoogblcaa.Book Go.Proofs.Ytlghmadoogblcaa.Lent Go.Proofs.Ytlghmadoogblcaa.Pile Go.Proofs.Ytlghmadoogblcaa.Rows4
set_option linter.unusedVariables false
set_option linter.unusedSimpArgs false
def Q4.word (q : Q4) (i : Nat) (w : Int) : Q4 :=
  ⟨q.a.set i (Go.bits .xor .u64 (q.a.getD i 0) w), q.b.set i (Go.bits .xor .u64 (q.b.getD i 0) (Go.bits .and .u64 (q.a.getD i 0) w)),
   q.c.set i (Go.bits .xor .u64 (q.c.getD i 0) (Go.bits .and .u64 (q.b.getD i 0) (Go.bits .and .u64 (q.a.getD i 0) w))),
   q.d.set i (Go.bits .xor .u64 (q.d.getD i 0) (Go.bits .and .u64 (q.c.getD i 0) (Go.bits .and .u64 (q.b.getD i 0) (Go.bits .and .u64 (q.a.getD i 0) w))))⟩
theorem cell_lt {w : World} {p : Addr} {v : Value} (h : w.cell? p = some v) : p.block < w.heap.size := by
  rcases Nat.lt_or_ge p.block w.heap.size with hl | hl
  · exact hl
  · unfold World.cell? at h
    rw [Array.getElem?_eq_none hl] at h
    simp at h
theorem own_word {w : World} {base g n m c : Nat} {xs : List Int} (h : w.ownsRow base 22 1 (.slice (some ⟨g, 0, none⟩) m c) n (nums .u64 xs)) (i : Int) (h0 : 0 ≤ i) (h1 : i < xs.length) : w.cell? ⟨g, i.toNat, none⟩ = some (.int .u64 (xs.getD i.toNat 0)) := by
  have hc := h.cells (g := g) rfl i.toNat (.int .u64 (xs.getD i.toNat 0)) (by rw [nums, List.getElem?_map, List.getElem?_eq_getElem (by omega), List.getD_eq_getElem?_getD, List.getElem?_eq_getElem (by omega)]; rfl)
  have e2 : (⟨g, 0, none⟩ : Addr).add i.toNat = ⟨g, i.toNat, none⟩ := by cases i.toNat <;> simp [Addr.add]
  rwa [e2] at hc
end Go.Proofs.Ytlghmadoogblcaa.CountWalk
end
section
namespace Go.Proofs.Ytlghmadoogblcaa.CountWalk
open Go Go.RowKit Go.Proofs.YtlghmadoogblcaaW.PrintWords Go.Proofs.YtlghmadoogblcaaW.PrintLast Go.Proofs.YtlghmadoogblcaaW.PrintMore Go.Proofs.Ytlghmadoogblcaa.PW Go.Proofs.Ytlghmadoogblcaa.Book Go.Proofs.Ytlghmadoogblcaa.Lent Go.Proofs.Ytlghmadoogblcaa.Pile Go.Proofs.Ytlghmadoogblcaa.Rows4
set_option linter.unusedVariables false
set_option linter.unusedSimpArgs false
end Go.Proofs.Ytlghmadoogblcaa.CountWalk
end
section
namespace Go.Proofs.Ytlghmadoogblcaa.Pile
open Go Go.RowKit Go.Proofs.YtlghmadoogblcaaW.PrintWords Go.Proofs.YtlghmadoogblcaaW.PrintLast Go.Proofs.YtlghmadoogblcaaW.PrintMore Go.Proofs.Ytlghmadoogblcaa.PS Go.Proofs.Ytlghmadoogblcaa.Bx Go.Proofs.Ytlghmadoogblcaa.Book Go.Proofs.Ytlghmadoogblcaa.Lent
set_option linter.unusedVariables false
set_option linter.unusedSimpArgs false
theorem bit_C_ {w : World} {base : Nat} {v : Value} {xs : List Bool} (h : w.ownsRow base 4 1 v xs.length (bools xs)) : ∃ A c, v = .slice A xs.length c ∧ xs.length ≤ c ∧ Kd.C Kd.bool w A xs.length xs :=
  Kd.R_reads (Kd.R_of_own (h1 := fun _ => rfl) (ok := fun _ => True) h (fun _ _ => trivial))
section
variable {w W W' : World} {b g cp : Nat} {gv wv : Value} {Z : List Ans} {ix : List Nat} {R : List (Value × List Int)} {T : List (Nat × List Value)} {L : List (Nat × Nat × List Int)} {l l' : List Bool}
theorem Pile0.bits {v : Value} (hb : Below w.heap.size w W) (ho : W.ownsRow w.heap.size 4 1 v l.length (bools l)) : Pile0 w W [] [] [(v, l)] :=
  ⟨hb, fun p hp => by simp at hp, fun j l h => by simp at h, fun i j l m _ h => by simp at h, fun j p h => by
    match j, h with
    | 0, h => obtain rfl := Option.some.inj h; exact ho, fun i j p q _ h => by simp at h⟩
end
end Go.Proofs.Ytlghmadoogblcaa.Pile
end
section
namespace Go.Proofs.Ytlghmadoogblcaa.RefCount
open Go Go.RowKit Go.Proofs.YtlghmadoogblcaaW.PrintWords Go.Proofs.YtlghmadoogblcaaW.PrintLast Go.Proofs.YtlghmadoogblcaaW.PrintMore Go.Proofs.Ytlghmadoogblcaa.PW Go.Proofs.Ytlghmadoogblcaa.Book Go.Proofs.Ytlghmadoogblcaa.Lent Go.Proofs.Ytlghmadoogblcaa.Pile Go.Proofs.Ytlghmadoogblcaa.Rows4 Go.Proofs.Ytlghmadoogblcaa.CountWalk
set_option linter.unusedVariables false
set_option linter.unusedSimpArgs false
theorem bit_C' {W : World} {base n m c : Nat} {A : Option Addr} {xs : List Bool} (e2 : xs.length = n) (h : W.ownsRow base 4 1 (.slice A m c) n (bools xs)) : Kd.C Kd.bool W A xs.length xs := by
  subst e2
  obtain ⟨A', c', e, _, hC⟩ := bit_C_ h
  cases e
  exact hC
end Go.Proofs.Ytlghmadoogblcaa.RefCount
end
section
namespace Go.Proofs.Ytlghmadoogblcaa.RefCount
open Go Go.RowKit Go.Proofs.YtlghmadoogblcaaW.PrintWords Go.Proofs.YtlghmadoogblcaaW.PrintLast Go.Proofs.YtlghmadoogblcaaW.PrintMore Go.Proofs.Ytlghmadoogblcaa.PW Go.Proofs.Ytlghmadoogblcaa.Book Go.Proofs.Ytlghmadoogblcaa.Lent Go.Proofs.Ytlghmadoogblcaa.Pile Go.Proofs.Ytlghmadoogblcaa.Rows4 Go.Proofs.Ytlghmadoogblcaa.CountWalk
set_option linter.unusedVariables false
set_option linter.unusedSimpArgs false
end Go.Proofs.Ytlghmadoogblcaa.RefCount
end
section
namespace Go.Proofs.Ytlghmadoogblcaa.RefPlain
open Go Go.RowKit Go.Proofs.Ytlghmadoogblcaa.PW Go.Proofs.Ytlghmadoogblcaa.PB Go.Proofs.YtlghmadoogblcaaW.PrintWords Go.Proofs.YtlghmadoogblcaaW.PrintLast Go.Proofs.YtlghmadoogblcaaW.PrintMore Go.Proofs.Ytlghmadoogblcaa.Bits Go.Proofs.Ytlghmadoogblcaa.Rowp
set_option maxRecDepth 100000
set_option linter.unusedVariables false
end Go.Proofs.Ytlghmadoogblcaa.RefPlain
end
section
namespace Go.Proofs.Ytlghmadoogblcaa.CountPlain
open Go Go.RowKit Go.Proofs.Ytlghmadoogblcaa.PW Go.Proofs.YtlghmadoogblcaaW.PrintWords Go.Proofs.YtlghmadoogblcaaW.PrintLast Go.Proofs.YtlghmadoogblcaaW.PrintMore Go.Proofs.Ytlghmadoogblcaa.Bits Go.Proofs.Ytlghmadoogblcaa.Rowp Go.Proofs.Ytlghmadoogblcaa.RefPlain Go.Proofs.Ytlghmadoogblcaa.Rows4 Go.Proofs.Ytlghmadoogblcaa.CountWalk
set_option maxRecDepth 100000
set_option linter.unusedVariables false
theorem rowOf_getD (m : Nat) (W : Nat → Nat) (i : Nat) (h : i < m) : (rowOf m W).getD i 0 = (W i : Int) := by
  rw [List.getD_eq_getElem?_getD, rowOf_get m W i h]; rfl
theorem rowOf_put (m : Nat) (W : Nat → Nat) (i x : Nat) : (rowOf m W).set i (x : Int) = rowOf m (fun t => if t = i then x else W t) := by
  have := rowOf_set m W i x
  rwa [Int.toNat_natCast] at this
def dg (k c : Nat) : Bool := decide (c / 2 ^ k % 2 = 1)
def CntIs (L : Nat) (q : Q4) (c : Nat → Nat) : Prop := ∃ A B C D : Nat → Nat, q = ⟨rowOf L A, rowOf L B, rowOf L C, rowOf L D⟩ ∧ (∀ t, t < L → A t < 18446744073709551616 ∧ B t < 18446744073709551616 ∧ C t < 18446744073709551616 ∧ D t < 18446744073709551616) ∧
  ∀ i, i < 64 * L → bitAt A i = dg 0 (c i) ∧ bitAt B i = dg 1 (c i) ∧ bitAt C i = dg 2 (c i) ∧ bitAt D i = dg 3 (c i)
theorem CntIs.congr {L : Nat} {q : Q4} {c c' : Nat → Nat} (h : CntIs L q c) (e : ∀ i, i < 64 * L → c i = c' i) : CntIs L q c' := by
  obtain ⟨A, B, C, D, hq, hl, hb⟩ := h
  exact ⟨A, B, C, D, hq, hl, fun i hi => by rw [← e i hi]; exact hb i hi⟩
def Told (F : FuncId) (l : List S31) (n : Int) (q : Q4) (er : Int) : Prop := ∀ (A0 : Option Addr) (c0 : Nat) (w : World), Kd.C k31 w A0 l.length l → l.length ≤ c0 →
  Calls Try.prog F #[.slice A0 l.length c0] w fun e w' => ∃ v0 v1 v2 v3, e = .returned (.tuple #[.agg (cells4 n v0 v1 v2 v3).toArray, .int .i64 er]) ∧ Rws w.heap.size w' (q.rows v0 v1 v2 v3) ∧ Below w.heap.size w w'
end Go.Proofs.Ytlghmadoogblcaa.CountPlain
end
section
namespace Go.Proofs.Ytlghmadoogblcaa.IsWalk
open Go Go.RowKit Go.Proofs.YtlghmadoogblcaaW.PrintWords Go.Proofs.YtlghmadoogblcaaW.PrintLast Go.Proofs.YtlghmadoogblcaaW.PrintMore Go.Proofs.Ytlghmadoogblcaa.PW Go.Proofs.Ytlghmadoogblcaa.Book Go.Proofs.Ytlghmadoogblcaa.Lent Go.Proofs.Ytlghmadoogblcaa.Pile Go.Proofs.Ytlghmadoogblcaa.Rows4
set_option linter.unusedVariables false
set_option linter.unusedSimpArgs false
structure I0 (w W : World) (b r : Nat) (cs : Array Value) : Prop where
  be : Below w.heap.size w W
  bx : W.heap[b]? = some (.cells cs 54 (0, 0))
  rx : W.heap[r]? = some (.cells #[.int .i64 0, .slice none 0 0] 31 (0, 0))
  ge : w.heap.size ≤ b
  re : w.heap.size ≤ r
  ne : r ≠ b
theorem I0.on {w W W' : World} {b r : Nat} {cs : Array Value} (h : I0 w W b r cs) (hb : Below W.heap.size W W') : I0 w W' b r cs := ⟨below_then h.be h.be.size hb, blk_below h.bx hb, blk_below h.rx hb, h.ge, h.re, h.ne⟩
structure IS (w W : World) (b r t : Nat) (cs : Array Value) (m : Int) (v : Value) (O : List Int) : Prop extends I0 w W b r cs where
  tx : W.heap[t]? = some (.cells #[.int .i64 m, v] 31 (0, 0))
  te : w.heap.size ≤ t
  rt : r ≠ t
  own : W.ownsRow w.heap.size 22 1 v O.length (nums .u64 O)
section
variable {w W W' : World} {b r t : Nat} {cs : Array Value} {m : Int} {v : Value} {O : List Int}
theorem IS.on (h : IS w W b r t cs m v O) (hb : Below W.heap.size W W') : IS w W' b r t cs m v O := ⟨h.toI0.on hb, blk_below h.tx hb, h.te, h.rt, pw_own_below h.own hb⟩
theorem IS.t0 (h : IS w W b r t cs m v O) : W.cell? ⟨t, 0, none⟩ = some (.int .i64 m) := (blk_cell h.tx 0).trans rfl
theorem IS.t1 (h : IS w W b r t cs m v O) : W.cell? ⟨t, 1, none⟩ = some v := (blk_cell h.tx 1).trans rfl
theorem IS.word {g n c : Nat} (h : IS w W b r t cs m (.slice (some ⟨g, 0, none⟩) n c) O) (hn : n = O.length) (i : Nat) (x : Int) : IS w (W.setCell ⟨g, i, none⟩ (.int .u64 x)) b r t cs m (.slice (some ⟨g, 0, none⟩) n c) (O.set i x) := by
  subst hn
  obtain ⟨hw, c0, hc⟩ := own_block h.own g rfl
  have hs := h.own.stored i (.int .u64 x)
  rw [nums_set] at hs
  have ne : ∀ (k : Nat) (cs : Array Value) (t : TypeId), W.heap[k]? = some (.cells cs t (0, 0)) → t ≠ 22 → k ≠ g := by
    rintro k cs t hk ht rfl
    rw [hk] at hc
    injection hc with hc
    injection hc with _ hc
    exact ht hc
  have far : ∀ k, k ≠ g → (W.setCell ⟨g, i, none⟩ (.int .u64 x)).heap[k]? = W.heap[k]? := fun k hk => Below.heap_setCell _ ⟨g, i, none⟩ _ _ hk
  exact ⟨⟨below_set h.be hw, (far _ (ne _ _ _ h.bx (by decide))).trans h.bx, (far _ (ne _ _ _ h.rx (by decide))).trans h.rx, h.ge, h.re, h.ne⟩, (far _ (ne _ _ _ h.tx (by decide))).trans h.tx, h.te, h.rt, by rw [List.length_set]; exact hs.1⟩
end
def isTo (on : Bool) (O ws : List Int) : Nat → List Int
  | 0 => O
  | i + 1 => (isTo on O ws i).set i (Go.bits (if on then .and else .andNot) .u64 ((isTo on O ws i).getD i 0) (ws.getD i 0))
theorem index4_0 (a b c d e f g h : Value) (w : World) : (Instr.index 54 (.agg #[a, b, c, d, e, f, g, h]) (.int .i64 0)).run Try.prog w = .ok (.agg #[a, b]) w := by kernel_rfl
theorem index4_1 (a b c d e f g h : Value) (w : World) : (Instr.index 54 (.agg #[a, b, c, d, e, f, g, h]) (.int .i64 1)).run Try.prog w = .ok (.agg #[c, d]) w := by kernel_rfl
theorem index4_2 (a b c d e f g h : Value) (w : World) : (Instr.index 54 (.agg #[a, b, c, d, e, f, g, h]) (.int .i64 2)).run Try.prog w = .ok (.agg #[e, f]) w := by kernel_rfl
theorem index4_3 (a b c d e f g h : Value) (w : World) : (Instr.index 54 (.agg #[a, b, c, d, e, f, g, h]) (.int .i64 3)).run Try.prog w = .ok (.agg #[g, h]) w := by kernel_rfl
theorem c4 {W : World} {b : Nat} {n0 n1 n2 n3 : Int} {A0 A1 A2 A3 : Option Addr} {X0 X1 X2 X3 : List Int} {c0 c1 c2 c3 : Nat} {t : TypeId} (hb : W.heap[b]? = some (.cells #[.int .i64 n0, .slice A0 X0.length c0, .int .i64 n1, .slice A1 X1.length c1, .int .i64 n2, .slice A2 X2.length c2, .int .i64 n3, .slice A3 X3.length c3] t (0, 0)))
    (h0 : Kd.C (Kd.int .u64) W A0 X0.length X0) (l0 : X0.length ≤ c0) (h1 : Kd.C (Kd.int .u64) W A1 X1.length X1) (l1 : X1.length ≤ c1) (h2 : Kd.C (Kd.int .u64) W A2 X2.length X2) (l2 : X2.length ≤ c2) (h3 : Kd.C (Kd.int .u64) W A3 X3.length X3) (l3 : X3.length ≤ c3) : Kd.C k31 W (some ⟨b, 0, none⟩) 4 [⟨n0, X0⟩, ⟨n1, X1⟩, ⟨n2, X2⟩, ⟨n3, X3⟩] := by
  have cell : ∀ (j : Nat) (v : Value), (#[.int .i64 n0, .slice A0 X0.length c0, .int .i64 n1, .slice A1 X1.length c1, .int .i64 n2, .slice A2 X2.length c2, .int .i64 n3, .slice A3 X3.length c3] : Array Value)[j]? = some v → W.cell? ((⟨b, 0, none⟩ : Addr).add j) = some v := by
    intro j v e
    have e2 : (⟨b, 0, none⟩ : Addr).add j = ⟨b, j, none⟩ := by cases j <;> simp [Addr.add]
    rw [e2]
    exact (blk_cell hb j).trans e
  refine ⟨rfl, by decide, fun _ => ⟨_, rfl, fun j p hj => ?_⟩⟩
  match j, hj with
  | 0, hj => obtain rfl := Option.some.inj hj; exact ⟨_, rfl, k31_mk W ⟨n0, X0⟩ l0 h0, fun i u hu => by match i, hu with | 0, hu => exact cell 0 _ hu | 1, hu => exact cell 1 _ hu⟩
  | 1, hj => obtain rfl := Option.some.inj hj; exact ⟨_, rfl, k31_mk W ⟨n1, X1⟩ l1 h1, fun i u hu => by match i, hu with | 0, hu => exact cell 2 _ hu | 1, hu => exact cell 3 _ hu⟩
  | 2, hj => obtain rfl := Option.some.inj hj; exact ⟨_, rfl, k31_mk W ⟨n2, X2⟩ l2 h2, fun i u hu => by match i, hu with | 0, hu => exact cell 4 _ hu | 1, hu => exact cell 5 _ hu⟩
  | 3, hj => obtain rfl := Option.some.inj hj; exact ⟨_, rfl, k31_mk W ⟨n3, X3⟩ l3 h3, fun i u hu => by match i, hu with | 0, hu => exact cell 6 _ hu | 1, hu => exact cell 7 _ hu⟩
  | j + 4, hj => simp at hj
set_option maxHeartbeats 8000000 in
set_option maxRecDepth 100000 in
theorem is_bad (k : Nat) (n0 n1 n2 n3 n er : Int) (A0 A1 A2 A3 : Option Addr) (X0 X1 X2 X3 : List Int) (c0 c1 c2 c3 : Nat) (w : World) (hC0 : Kd.C (Kd.int .u64) w A0 X0.length X0) (hl0 : X0.length ≤ c0) (hC1 : Kd.C (Kd.int .u64) w A1 X1.length X1) (hl1 : X1.length ≤ c1) (hC2 : Kd.C (Kd.int .u64) w A2 X2.length X2) (hl2 : X2.length ≤ c2) (hC3 : Kd.C (Kd.int .u64) w A3 X3.length X3) (hl3 : X3.length ≤ c3) (hf : words_fits.f k [⟨n0, X0⟩, ⟨n1, X1⟩, ⟨n2, X2⟩, ⟨n3, X3⟩] = some er) (her : er ≠ 0) :
    Calls Try.prog 36 #[.agg #[.int .i64 n0, .slice A0 X0.length c0, .int .i64 n1, .slice A1 X1.length c1, .int .i64 n2, .slice A2 X2.length c2, .int .i64 n3, .slice A3 X3.length c3], .int .i64 n] w fun e w' => e = .returned (.tuple #[.agg #[.int .i64 0, .slice none 0 0], .int .i64 er]) ∧ Below w.heap.size w w' := by
  have HC0 := Aside0.mk hC0; have HL0 := Aside0.mk hl0; have HC1 := Aside0.mk hC1; have HL1 := Aside0.mk hl1; have HC2 := Aside0.mk hC2; have HL2 := Aside0.mk hl2; have HC3 := Aside0.mk hC3; have HL3 := Aside0.mk hl3
  have HF := Aside0.mk hf
  have hu := Try.underlying31
  have hu4 := Try.underlying54
  have de : ((er : Int) != 0) = true := by simpa using her
  clear hC0 hl0 hC1 hl1 hC2 hl2 hC3 hl3 hf her
  go_enter Try.func36, Try.ntmps36
  go_wp2_with (first
    | ((with_reducible refine gate_dst (N := 2) rfl ?_); refine box_event ?hg2 (N := 2) ?hd2 (cs := #[.int .i64 n0, .slice A0 X0.length c0, .int .i64 n1, .slice A1 X1.length c1, .int .i64 n2, .slice A2 X2.length c2, .int .i64 n3, .slice A3 X3.length c3]) (t := 54) ?hr2 ?_; (case hd2 => rfl); (case hg2 => rfl); (case hr2 => first | (go_simp; done) | (go_simp; rfl)); intro b gb W1 x1 hb1; have hge : w.heap.size ≤ b := (by omega); clear gb)
    | ((with_reducible refine gate_dst (N := 4) rfl ?_); refine box_event ?hg4 (N := 4) ?hd4 (cs := #[.int .i64 0, .slice none 0 0]) (t := 31) ?hr4 ?_; (case hd4 => rfl); (case hg4 => rfl); (case hr4 => first | (go_simp; done) | (go_simp; rfl)); intro r gr W2 x2 hb2; have P2 : I0 w W2 b r #[.int .i64 n0, .slice A0 X0.length c0, .int .i64 n1, .slice A1 X1.length c1, .int .i64 n2, .slice A2 X2.length c2, .int .i64 n3, .slice A3 X3.length c3] := ⟨chain_ hb1 hb2, blk_below x1 hb2, x2, hge, (by have := hb1.size; omega), (by have := blk_lt x1; omega)⟩; have P := Aside0.mk P2; clear P2 x1 x2 hb1 hb2 gr)
    | (go_at_call 55; have P1 := P.out; have h_ : Calls Try.prog 55 #[.slice (some ⟨b, 0, none⟩) 4 4] W2 (fun e w' => e = .returned (.int .i64 er) ∧ Below W2.heap.size W2 w') := words_fits.calls k (some ⟨b, 0, none⟩) 4 [⟨n0, X0⟩, ⟨n1, X1⟩, ⟨n2, X2⟩, ⟨n3, X3⟩] er W2 (c4 P1.bx (Kd.C_below HC0.out P1.be) HL0.out (Kd.C_below HC1.out P1.be) HL1.out (Kd.C_below HC2.out P1.be) HL2.out (Kd.C_below HC3.out P1.be) HL3.out) (Nat.le_refl 4) HF.out; (with_reducible refine h_.mono ?_); clear h_; rintro er_ v1 ⟨rfl, hb⟩; have P2 := P1.on hb; clear hb P P1; have P := Aside0.mk P2; clear P2; have z0_ := (blk_cell P.out.rx 0).trans (show ((#[Value.int .i64 0, Value.slice none 0 0] : Array Value)[0]?) = some (.int .i64 0) from rfl); have z1_ := (blk_cell P.out.rx 1).trans (show ((#[Value.int .i64 0, Value.slice none 0 0] : Array Value)[1]?) = some (.slice none 0 0) from rfl); have f0_ := blk_frozen P.out.rx 0; have f1_ := blk_frozen P.out.rx 1))
  exact bodyPost_ret (results_ct rfl _ _ r 31 #[.int .i64 0, .slice none 0 0] (0, 0) _ rfl (blk_put (cs := #[.int .i64 0, .slice none 0 0]) (blk_put P.out.rx 0 _ rfl) 1 _ rfl) hu rfl (by kernel_rfl)) rfl ⟨rfl, below_set (below_set P.out.be P.out.re) P.out.re⟩
set_option maxHeartbeats 8000000 in
set_option maxRecDepth 100000 in
theorem is_arg (k : Nat) (n0 n1 n2 n3 n : Int) (A0 A1 A2 A3 : Option Addr) (X0 X1 X2 X3 : List Int) (c0 c1 c2 c3 : Nat) (w : World) (hC0 : Kd.C (Kd.int .u64) w A0 X0.length X0) (hl0 : X0.length ≤ c0) (hC1 : Kd.C (Kd.int .u64) w A1 X1.length X1) (hl1 : X1.length ≤ c1) (hC2 : Kd.C (Kd.int .u64) w A2 X2.length X2) (hl2 : X2.length ≤ c2) (hC3 : Kd.C (Kd.int .u64) w A3 X3.length X3) (hl3 : X3.length ≤ c3) (hf : words_fits.f k [⟨n0, X0⟩, ⟨n1, X1⟩, ⟨n2, X2⟩, ⟨n3, X3⟩] = some 0) (hn : n < 0 ∨ n > 15) :
    Calls Try.prog 36 #[.agg #[.int .i64 n0, .slice A0 X0.length c0, .int .i64 n1, .slice A1 X1.length c1, .int .i64 n2, .slice A2 X2.length c2, .int .i64 n3, .slice A3 X3.length c3], .int .i64 n] w fun e w' => e = .returned (.tuple #[.agg #[.int .i64 0, .slice none 0 0], .int .i64 2]) ∧ Below w.heap.size w w' := by
  have HC0 := Aside0.mk hC0; have HL0 := Aside0.mk hl0; have HC1 := Aside0.mk hC1; have HL1 := Aside0.mk hl1; have HC2 := Aside0.mk hC2; have HL2 := Aside0.mk hl2; have HC3 := Aside0.mk hC3; have HL3 := Aside0.mk hl3
  have HF := Aside0.mk hf
  have hu := Try.underlying31
  have hu4 := Try.underlying54
  clear hC0 hl0 hC1 hl1 hC2 hl2 hC3 hl3 hf
  by_cases h0 : n < 0
  · go_enter Try.func36, Try.ntmps36
    go_wp2_with (first
      | ((with_reducible refine gate_dst (N := 2) rfl ?_); refine box_event ?hg2 (N := 2) ?hd2 (cs := #[.int .i64 n0, .slice A0 X0.length c0, .int .i64 n1, .slice A1 X1.length c1, .int .i64 n2, .slice A2 X2.length c2, .int .i64 n3, .slice A3 X3.length c3]) (t := 54) ?hr2 ?_; (case hd2 => rfl); (case hg2 => rfl); (case hr2 => first | (go_simp; done) | (go_simp; rfl)); intro b gb W1 x1 hb1; have hge : w.heap.size ≤ b := (by omega); clear gb)
      | ((with_reducible refine gate_dst (N := 4) rfl ?_); refine box_event ?hg4 (N := 4) ?hd4 (cs := #[.int .i64 0, .slice none 0 0]) (t := 31) ?hr4 ?_; (case hd4 => rfl); (case hg4 => rfl); (case hr4 => first | (go_simp; done) | (go_simp; rfl)); intro r gr W2 x2 hb2; have P2 : I0 w W2 b r #[.int .i64 n0, .slice A0 X0.length c0, .int .i64 n1, .slice A1 X1.length c1, .int .i64 n2, .slice A2 X2.length c2, .int .i64 n3, .slice A3 X3.length c3] := ⟨chain_ hb1 hb2, blk_below x1 hb2, x2, hge, (by have := hb1.size; omega), (by have := blk_lt x1; omega)⟩; have P := Aside0.mk P2; clear P2 x1 x2 hb1 hb2 gr)
      | (go_at_call 55; have P1 := P.out; have h_ : Calls Try.prog 55 #[.slice (some ⟨b, 0, none⟩) 4 4] W2 (fun e w' => e = .returned (.int .i64 0) ∧ Below W2.heap.size W2 w') := words_fits.calls k (some ⟨b, 0, none⟩) 4 [⟨n0, X0⟩, ⟨n1, X1⟩, ⟨n2, X2⟩, ⟨n3, X3⟩] 0 W2 (c4 P1.bx (Kd.C_below HC0.out P1.be) HL0.out (Kd.C_below HC1.out P1.be) HL1.out (Kd.C_below HC2.out P1.be) HL2.out (Kd.C_below HC3.out P1.be) HL3.out) (Nat.le_refl 4) HF.out; (with_reducible refine h_.mono ?_); clear h_; rintro er_ v1 ⟨rfl, hb⟩; have P2 := P1.on hb; clear hb P P1; have P := Aside0.mk P2; clear P2; have z0_ := (blk_cell P.out.rx 0).trans (show ((#[Value.int .i64 0, Value.slice none 0 0] : Array Value)[0]?) = some (.int .i64 0) from rfl); have z1_ := (blk_cell P.out.rx 1).trans (show ((#[Value.int .i64 0, Value.slice none 0 0] : Array Value)[1]?) = some (.slice none 0 0) from rfl); have f0_ := blk_frozen P.out.rx 0; have f1_ := blk_frozen P.out.rx 1))
    exact bodyPost_ret (results_ct rfl _ _ r 31 #[.int .i64 0, .slice none 0 0] (0, 0) _ rfl (blk_put (cs := #[.int .i64 0, .slice none 0 0]) (blk_put P.out.rx 0 _ rfl) 1 _ rfl) hu rfl (by kernel_rfl)) rfl ⟨rfl, below_set (below_set P.out.be P.out.re) P.out.re⟩
  · have h1 : n > 15 := by omega
    go_enter Try.func36, Try.ntmps36
    go_wp2_with (first
      | ((with_reducible refine gate_dst (N := 2) rfl ?_); refine box_event ?hg2 (N := 2) ?hd2 (cs := #[.int .i64 n0, .slice A0 X0.length c0, .int .i64 n1, .slice A1 X1.length c1, .int .i64 n2, .slice A2 X2.length c2, .int .i64 n3, .slice A3 X3.length c3]) (t := 54) ?hr2 ?_; (case hd2 => rfl); (case hg2 => rfl); (case hr2 => first | (go_simp; done) | (go_simp; rfl)); intro b gb W1 x1 hb1; have hge : w.heap.size ≤ b := (by omega); clear gb)
      | ((with_reducible refine gate_dst (N := 4) rfl ?_); refine box_event ?hg4 (N := 4) ?hd4 (cs := #[.int .i64 0, .slice none 0 0]) (t := 31) ?hr4 ?_; (case hd4 => rfl); (case hg4 => rfl); (case hr4 => first | (go_simp; done) | (go_simp; rfl)); intro r gr W2 x2 hb2; have P2 : I0 w W2 b r #[.int .i64 n0, .slice A0 X0.length c0, .int .i64 n1, .slice A1 X1.length c1, .int .i64 n2, .slice A2 X2.length c2, .int .i64 n3, .slice A3 X3.length c3] := ⟨chain_ hb1 hb2, blk_below x1 hb2, x2, hge, (by have := hb1.size; omega), (by have := blk_lt x1; omega)⟩; have P := Aside0.mk P2; clear P2 x1 x2 hb1 hb2 gr)
      | (go_at_call 55; have P1 := P.out; have h_ : Calls Try.prog 55 #[.slice (some ⟨b, 0, none⟩) 4 4] W2 (fun e w' => e = .returned (.int .i64 0) ∧ Below W2.heap.size W2 w') := words_fits.calls k (some ⟨b, 0, none⟩) 4 [⟨n0, X0⟩, ⟨n1, X1⟩, ⟨n2, X2⟩, ⟨n3, X3⟩] 0 W2 (c4 P1.bx (Kd.C_below HC0.out P1.be) HL0.out (Kd.C_below HC1.out P1.be) HL1.out (Kd.C_below HC2.out P1.be) HL2.out (Kd.C_below HC3.out P1.be) HL3.out) (Nat.le_refl 4) HF.out; (with_reducible refine h_.mono ?_); clear h_; rintro er_ v1 ⟨rfl, hb⟩; have P2 := P1.on hb; clear hb P P1; have P := Aside0.mk P2; clear P2; have z0_ := (blk_cell P.out.rx 0).trans (show ((#[Value.int .i64 0, Value.slice none 0 0] : Array Value)[0]?) = some (.int .i64 0) from rfl); have z1_ := (blk_cell P.out.rx 1).trans (show ((#[Value.int .i64 0, Value.slice none 0 0] : Array Value)[1]?) = some (.slice none 0 0) from rfl); have f0_ := blk_frozen P.out.rx 0; have f1_ := blk_frozen P.out.rx 1))
    exact bodyPost_ret (results_ct rfl _ _ r 31 #[.int .i64 0, .slice none 0 0] (0, 0) _ rfl (blk_put (cs := #[.int .i64 0, .slice none 0 0]) (blk_put P.out.rx 0 _ rfl) 1 _ rfl) hu rfl (by kernel_rfl)) rfl ⟨rfl, below_set (below_set P.out.be P.out.re) P.out.re⟩
theorem c4' {W : World} {b L : Nat} {m : Int} {A0 A1 A2 A3 : Option Addr} {X0 X1 X2 X3 : List Int} {c0 c1 c2 c3 : Nat} (x0 : X0.length = L) (x1 : X1.length = L) (x2 : X2.length = L) (x3 : X3.length = L) (hb : W.heap[b]? = some (.cells #[.int .i64 m, .slice A0 L c0, .int .i64 m, .slice A1 L c1, .int .i64 m, .slice A2 L c2, .int .i64 m, .slice A3 L c3] 54 (0, 0)))
    (h0 : Kd.C (Kd.int .u64) W A0 X0.length X0) (l0 : X0.length ≤ c0) (h1 : Kd.C (Kd.int .u64) W A1 X1.length X1) (l1 : X1.length ≤ c1) (h2 : Kd.C (Kd.int .u64) W A2 X2.length X2) (l2 : X2.length ≤ c2) (h3 : Kd.C (Kd.int .u64) W A3 X3.length X3) (l3 : X3.length ≤ c3) : Kd.C k31 W (some ⟨b, 0, none⟩) 4 [⟨m, X0⟩, ⟨m, X1⟩, ⟨m, X2⟩, ⟨m, X3⟩] :=
  c4 (by rw [x0, x1, x2, x3]; exact hb) h0 l0 h1 l1 h2 l2 h3 l3
set_option maxHeartbeats 8000000 in
set_option maxRecDepth 100000 in
theorem is_ok (k : Nat) (m n : Int) (A0 A1 A2 A3 : Option Addr) (X0 X1 X2 X3 O0 Z : List Int) (c0 c1 c2 c3 L : Nat) (on0 on1 on2 on3 : Bool) (w : World) (hC0 : Kd.C (Kd.int .u64) w A0 X0.length X0) (hl0 : X0.length ≤ c0) (hC1 : Kd.C (Kd.int .u64) w A1 X1.length X1) (hl1 : X1.length ≤ c1) (hC2 : Kd.C (Kd.int .u64) w A2 X2.length X2) (hl2 : X2.length ≤ c2) (hC3 : Kd.C (Kd.int .u64) w A3 X3.length X3) (hl3 : X3.length ≤ c3) (hf : words_fits.f k [⟨m, X0⟩, ⟨m, X1⟩, ⟨m, X2⟩, ⟨m, X3⟩] = some 0) (h0 : 0 ≤ n) (h15 : n ≤ 15) (hLb : L ≤ 2000000)
    (hx0 : X0.length = L) (hx1 : X1.length = L) (hx2 : X2.length = L) (hx3 : X3.length = L) (ho : O0.length = L) (hon0 : (Go.bits .and .i64 n 1 == 1) = on0) (hon1 : (Go.bits .and .i64 (n / 2) 1 == 1) = on1) (hon2 : (Go.bits .and .i64 (n / 4) 1 == 1) = on2) (hon3 : (Go.bits .and .i64 (n / 8) 1 == 1) = on3) (hz : words_blank.f m = some (m, Z)) (hnot : words_Not.f k m Z = some (m, O0, 0)) :
    Calls Try.prog 36 #[.agg #[.int .i64 m, .slice A0 L c0, .int .i64 m, .slice A1 L c1, .int .i64 m, .slice A2 L c2, .int .i64 m, .slice A3 L c3], .int .i64 n] w fun e w' => ∃ v, e = .returned (.tuple #[.agg #[.int .i64 m, v], .int .i64 0]) ∧ w'.ownsRow w.heap.size 22 1 v (isTo on3 (isTo on2 (isTo on1 (isTo on0 O0 X0 L) X1 L) X2 L) X3 L).length (nums .u64 (isTo on3 (isTo on2 (isTo on1 (isTo on0 O0 X0 L) X1 L) X2 L) X3 L)) ∧ Below w.heap.size w w' := by
  have HC0 := Aside0.mk hC0; have HL0 := Aside0.mk hl0; have HC1 := Aside0.mk hC1; have HL1 := Aside0.mk hl1; have HC2 := Aside0.mk hC2; have HL2 := Aside0.mk hl2; have HC3 := Aside0.mk hC3; have HL3 := Aside0.mk hl3
  have HF := Aside0.mk hf; have HZ := Aside0.mk hz; have HNT := Aside0.mk hnot; have HOL := Aside0.mk ho
  have HX0 := Aside0.mk hx0; have HON0 := Aside0.mk hon0; have HX1 := Aside0.mk hx1; have HON1 := Aside0.mk hon1; have HX2 := Aside0.mk hx2; have HON2 := Aside0.mk hon2; have HX3 := Aside0.mk hx3; have HON3 := Aside0.mk hon3
  have hu := Try.underlying31
  have hu4 := Try.underlying54
  clear hC0 hl0 hC1 hl1 hC2 hl2 hC3 hl3 hf hz hnot ho hx0 hx1 hx2 hx3 hon0 hon1 hon2 hon3
  go_enter Try.func36, Try.ntmps36
  go_wp2_with (first
    | ((with_reducible refine gate_dst (N := 2) rfl ?_); refine box_event ?hg2 (N := 2) ?hd2 (cs := #[.int .i64 m, .slice A0 L c0, .int .i64 m, .slice A1 L c1, .int .i64 m, .slice A2 L c2, .int .i64 m, .slice A3 L c3]) (t := 54) ?hr2 ?_; (case hd2 => rfl); (case hg2 => rfl); (case hr2 => first | (go_simp; done) | (go_simp; rfl)); intro b gb W1 x1 hb1; have hge : w.heap.size ≤ b := (by omega); clear gb)
    | ((with_reducible refine gate_dst (N := 4) rfl ?_); refine box_event ?hg4 (N := 4) ?hd4 (cs := #[.int .i64 0, .slice none 0 0]) (t := 31) ?hr4 ?_; (case hd4 => rfl); (case hg4 => rfl); (case hr4 => first | (go_simp; done) | (go_simp; rfl)); intro r gr W2 x2 hb2; have P2 : I0 w W2 b r #[.int .i64 m, .slice A0 L c0, .int .i64 m, .slice A1 L c1, .int .i64 m, .slice A2 L c2, .int .i64 m, .slice A3 L c3] := ⟨chain_ hb1 hb2, blk_below x1 hb2, x2, hge, (by have := hb1.size; omega), (by have := blk_lt x1; omega)⟩; have P := Aside0.mk P2; clear P2 x1 x2 hb1 hb2 gr)
    | (go_at_call 55; have P1 := P.out; have h_ : Calls Try.prog 55 #[.slice (some ⟨b, 0, none⟩) 4 4] W2 (fun e w' => e = .returned (.int .i64 0) ∧ Below W2.heap.size W2 w') := words_fits.calls k (some ⟨b, 0, none⟩) 4 [⟨m, X0⟩, ⟨m, X1⟩, ⟨m, X2⟩, ⟨m, X3⟩] 0 W2 (c4' HX0.out HX1.out HX2.out HX3.out P1.bx (Kd.C_below HC0.out P1.be) HL0.out (Kd.C_below HC1.out P1.be) HL1.out (Kd.C_below HC2.out P1.be) HL2.out (Kd.C_below HC3.out P1.be) HL3.out) (Nat.le_refl 4) HF.out; (with_reducible refine h_.mono ?_); clear h_; rintro er_ v1 ⟨rfl, hb⟩; have P2 := P1.on hb; clear hb P P1; have P := Aside0.mk P2; clear P2; have x0_ : v1.cell? ⟨b, 0, none⟩ = some (.int .i64 m) := (blk_cell P.out.bx 0).trans rfl)
    | (go_at_call 47; have P1 := P.out; (with_reducible refine (words_blank.calls m m Z _ HZ.out).mono ?_); rintro er_ v2 ⟨t_, rfl, hR, hb⟩; obtain ⟨A_z, c_z, e_, hl_, hC_⟩ := Kd.R_reads hR; subst e_; have P2 := P1.on hb; have HCZ := Aside0.mk hC_; have HLZ := Aside0.mk hl_; clear hb P P1 hR hC_ hl_; have P := Aside0.mk P2; clear P2 x0_)
    | (go_at_call 39; have P1 := P.out; (with_reducible refine (words_Not.calls k m A_z c_z Z m O0 0 _ HCZ.out HLZ.out HNT.out).mono ?_); rintro er_ v3 ⟨t_, rfl, hR, hb⟩; obtain ⟨Ao, co, e_, -, -⟩ := Kd.R_reads hR; rw [HOL.out] at e_; subst e_; have P2 := P1.on hb; have how_ : v3.ownsRow v2.heap.size 22 1 (.slice Ao L co) O0.length (nums .u64 O0) := Kd.own_of_R hR; have HOW := Aside0.mk (own_less how_ P1.be.size); clear how_; clear hb P P1 hR; have P := Aside0.mk P2; clear P2; have x_0 : v3.cell? ⟨b, 0, none⟩ = some (.int .i64 m) := (blk_cell P.out.bx 0).trans rfl; have x_1 : v3.cell? ⟨b, 1, none⟩ = some (.slice A0 L c0) := (blk_cell P.out.bx 1).trans rfl; have x_2 : v3.cell? ⟨b, 2, none⟩ = some (.int .i64 m) := (blk_cell P.out.bx 2).trans rfl; have x_3 : v3.cell? ⟨b, 3, none⟩ = some (.slice A1 L c1) := (blk_cell P.out.bx 3).trans rfl; have x_4 : v3.cell? ⟨b, 4, none⟩ = some (.int .i64 m) := (blk_cell P.out.bx 4).trans rfl; have x_5 : v3.cell? ⟨b, 5, none⟩ = some (.slice A2 L c2) := (blk_cell P.out.bx 5).trans rfl; have x_6 : v3.cell? ⟨b, 6, none⟩ = some (.int .i64 m) := (blk_cell P.out.bx 6).trans rfl; have x_7 : v3.cell? ⟨b, 7, none⟩ = some (.slice A3 L c3) := (blk_cell P.out.bx 7).trans rfl; have q_b := blk_lt P.out.bx))
  refine wp_loop_rounds 5 ?_
  have P2 : IS w (v3.alloc (.cells #[.int .i64 m, .slice Ao L co] 31)) b r v3.heap.size #[.int .i64 m, .slice A0 L c0, .int .i64 m, .slice A1 L c1, .int .i64 m, .slice A2 L c2, .int .i64 m, .slice A3 L c3] m (.slice Ao L co) O0 := ⟨P.out.on (below_alloc (Below.refl _ _) _), blk_new v3 _, P.out.be.size, (by have := blk_lt P.out.rx; omega), own_alloc HOW.out _⟩
  clear P HOW q_b x_0 x_1 x_2 x_3 x_4 x_5 x_6 x_7
  have P := Aside0.mk P2
  clear P2
  generalize v3.alloc _ = wq at P ⊢
  generalize v3.heap.size = t at P ⊢
  have t0_ := P.out.t0
  have t1_ := P.out.t1
  rw [rounds_succ]
  have hix_ : ∀ W : World, (Instr.index 54 (.agg #[.int .i64 m, .slice A0 L c0, .int .i64 m, .slice A1 L c1, .int .i64 m, .slice A2 L c2, .int .i64 m, .slice A3 L c3]) (.int .i64 0)).run Try.prog W = .ok (.agg #[.int .i64 m, .slice A0 L c0]) W := fun W => index4_0 _ _ _ _ _ _ _ _ W
  go_wp2
  clear hix_
  have P2 := P.out.on (below_alloc (Below.refl _ _) (.cells #[.int .i64 m, .slice A0 L c0] 31))
  clear P t0_ t1_
  have P := Aside0.mk P2
  clear P2
  generalize World.alloc _ _ = wa at P ⊢
  have t0_ := P.out.t0
  have t1_ := P.out.t1
  go_loopg [42] L (fun q2_ s42 wx => ∃ y : Int, s42 = .int .i64 y ∧ Aside0 (0 ≤ y ∧ y ≤ L ∧ (q2_ : Int) = L - y) ∧ Aside0 (IS w wx b r t #[.int .i64 m, .slice A0 L c0, .int .i64 m, .slice A1 L c1, .int .i64 m, .slice A2 L c2, .int .i64 m, .slice A3 L c3] m (.slice Ao L co) (isTo on0 O0 X0 y.toNat)))
  case atStart => exact ⟨0, rfl, ⟨by omega, by omega, by omega⟩, P⟩
  case round =>
    clear P t0_ t1_
    obtain ⟨y, rfl, HY, P⟩ := hrel
    have t0_ := P.out.t0
    have t1_ := P.out.t1
    by_cases qy : y < L
    · have p : 0 ≤ y := HY.out.1
      obtain ⟨ad, e_, hw0⟩ := Kd.at_int HC0.out y p (by have := HX0.out; omega)
      subst e_
      have hw_ : wr.cell? (ad.add y.toNat) = some (.int .u64 (rd X0 y)) := (P.out.be.cell (CountWalk.cell_lt hw0)).trans hw0
      clear hw0
      obtain ⟨wd, hwd⟩ : ∃ q, rd X0 y = q := ⟨_, rfl⟩
      rw [hwd] at hw_
      have HWD := Aside0.mk hwd
      clear hwd
      obtain ⟨O, hO⟩ : ∃ q, isTo on0 O0 X0 y.toNat = q := ⟨_, rfl⟩
      rw [hO] at P
      have HO := Aside0.mk hO
      clear hO
      obtain ⟨g, e_⟩ := own_some' P.out.own (by omega)
      subst e_
      have hlo : L = O.length := own_len' P.out.own
      obtain ⟨xo, hxo⟩ : ∃ q, O.getD y.toNat 0 = q := ⟨_, rfl⟩
      have sc_ : wr.cell? ⟨g, y.toNat, none⟩ = some (.int .u64 xo) := (CountWalk.own_word P.out.own y p (by omega)).trans (by rw [hxo])
      have sf_ := own_free P.out.own y.toNat
      have HXO := Aside0.mk hxo
      have HLO := Aside0.mk hlo
      clear hlo hxo
      go_wp2
      · have ht_ : (Go.bits .and .i64 n 1 == 1) = true := by assumption
        have HT := Aside0.mk (HON0.out.symm.trans ht_)
        clear ht_
        go_roundg (L - (y + 1).toNat)
        case measure => go_light; have := HY.out; omega
        case rel =>
          go_light
          refine ⟨y + 1, by have hw : wrap64 (y + 1) = y + 1 := (by unfold wrap64; omega); first | rfl | (rw [hw]; done) | (simp [hw]; done), ⟨by omega, by omega, by omega⟩, ⟨?_⟩⟩
          have h2 := P.out.word HLO.out y.toNat (Go.bits .and .u64 xo wd)
          rw [show (y + 1).toNat = y.toNat + 1 by omega]
          have e1 : isTo on0 O0 X0 (y.toNat + 1) = O.set y.toNat (Go.bits .and .u64 xo wd) := by
            have hwd : X0.getD y.toNat 0 = wd := HWD.out
            show (isTo on0 O0 X0 y.toNat).set y.toNat _ = _
            rw [HO.out, hwd, HXO.out, HT.out]
            rfl
          rw [e1]
          exact h2
      · have ht_ : (Go.bits .and .i64 n 1 == 1) = false := by assumption
        have HT := Aside0.mk (HON0.out.symm.trans ht_)
        clear ht_
        go_roundg (L - (y + 1).toNat)
        case measure => go_light; have := HY.out; omega
        case rel =>
          go_light
          refine ⟨y + 1, by have hw : wrap64 (y + 1) = y + 1 := (by unfold wrap64; omega); first | rfl | (rw [hw]; done) | (simp [hw]; done), ⟨by omega, by omega, by omega⟩, ⟨?_⟩⟩
          have h2 := P.out.word HLO.out y.toNat (Go.bits .andNot .u64 xo wd)
          rw [show (y + 1).toNat = y.toNat + 1 by omega]
          have e1 : isTo on0 O0 X0 (y.toNat + 1) = O.set y.toNat (Go.bits .andNot .u64 xo wd) := by
            have hwd : X0.getD y.toNat 0 = wd := HWD.out
            show (isTo on0 O0 X0 y.toNat).set y.toNat _ = _
            rw [HO.out, hwd, HXO.out, HT.out]
            rfl
          rw [e1]
          exact h2
    · have hy : y = L := by have := HY.out; omega
      have h2 := P.out
      rw [hy, Int.toNat_natCast] at h2
      clear P
      have P := Aside0.mk h2
      clear h2
      subst hy
      have t0_ := P.out.t0
      have t1_ := P.out.t1
      go_wp2
      rw [rounds_succ]
      have hix_ : ∀ W : World, (Instr.index 54 (.agg #[.int .i64 m, .slice A0 L c0, .int .i64 m, .slice A1 L c1, .int .i64 m, .slice A2 L c2, .int .i64 m, .slice A3 L c3]) (.int .i64 1)).run Try.prog W = .ok (.agg #[.int .i64 m, .slice A1 L c1]) W := fun W => index4_1 _ _ _ _ _ _ _ _ W
      go_wp2
      clear hix_
      have P2 := P.out.on (below_alloc (Below.refl _ _) (.cells #[.int .i64 m, .slice A1 L c1] 31))
      clear P t0_ t1_
      have P := Aside0.mk P2
      clear P2
      generalize World.alloc _ _ = wa at P ⊢
      have t0_ := P.out.t0
      have t1_ := P.out.t1
      go_loopg [42] L (fun q2_ s42 wx => ∃ y : Int, s42 = .int .i64 y ∧ Aside0 (0 ≤ y ∧ y ≤ L ∧ (q2_ : Int) = L - y) ∧ Aside0 (IS w wx b r t #[.int .i64 m, .slice A0 L c0, .int .i64 m, .slice A1 L c1, .int .i64 m, .slice A2 L c2, .int .i64 m, .slice A3 L c3] m (.slice Ao L co) (isTo on1 (isTo on0 O0 X0 L) X1 y.toNat)))
      case atStart => exact ⟨0, rfl, ⟨by omega, by omega, by omega⟩, P⟩
      case round =>
        clear P t0_ t1_
        obtain ⟨y, rfl, HY, P⟩ := hrel
        have t0_ := P.out.t0
        have t1_ := P.out.t1
        by_cases qy : y < L
        · have p : 0 ≤ y := HY.out.1
          obtain ⟨ad, e_, hw0⟩ := Kd.at_int HC1.out y p (by have := HX1.out; omega)
          subst e_
          have hw_ : wr.cell? (ad.add y.toNat) = some (.int .u64 (rd X1 y)) := (P.out.be.cell (CountWalk.cell_lt hw0)).trans hw0
          clear hw0
          obtain ⟨wd, hwd⟩ : ∃ q, rd X1 y = q := ⟨_, rfl⟩
          rw [hwd] at hw_
          have HWD := Aside0.mk hwd
          clear hwd
          obtain ⟨O, hO⟩ : ∃ q, isTo on1 (isTo on0 O0 X0 L) X1 y.toNat = q := ⟨_, rfl⟩
          rw [hO] at P
          have HO := Aside0.mk hO
          clear hO
          obtain ⟨g, e_⟩ := own_some' P.out.own (by omega)
          subst e_
          have hlo : L = O.length := own_len' P.out.own
          obtain ⟨xo, hxo⟩ : ∃ q, O.getD y.toNat 0 = q := ⟨_, rfl⟩
          have sc_ : wr.cell? ⟨g, y.toNat, none⟩ = some (.int .u64 xo) := (CountWalk.own_word P.out.own y p (by omega)).trans (by rw [hxo])
          have sf_ := own_free P.out.own y.toNat
          have HXO := Aside0.mk hxo
          have HLO := Aside0.mk hlo
          clear hlo hxo
          go_wp2
          · have ht_ : (Go.bits .and .i64 (n / 2) 1 == 1) = true := by assumption
            have HT := Aside0.mk (HON1.out.symm.trans ht_)
            clear ht_
            go_roundg (L - (y + 1).toNat)
            case measure => go_light; have := HY.out; omega
            case rel =>
              go_light
              refine ⟨y + 1, by have hw : wrap64 (y + 1) = y + 1 := (by unfold wrap64; omega); first | rfl | (rw [hw]; done) | (simp [hw]; done), ⟨by omega, by omega, by omega⟩, ⟨?_⟩⟩
              have h2 := P.out.word HLO.out y.toNat (Go.bits .and .u64 xo wd)
              rw [show (y + 1).toNat = y.toNat + 1 by omega]
              have e1 : isTo on1 (isTo on0 O0 X0 L) X1 (y.toNat + 1) = O.set y.toNat (Go.bits .and .u64 xo wd) := by
                have hwd : X1.getD y.toNat 0 = wd := HWD.out
                show (isTo on1 (isTo on0 O0 X0 L) X1 y.toNat).set y.toNat _ = _
                rw [HO.out, hwd, HXO.out, HT.out]
                rfl
              rw [e1]
              exact h2
          · have ht_ : (Go.bits .and .i64 (n / 2) 1 == 1) = false := by assumption
            have HT := Aside0.mk (HON1.out.symm.trans ht_)
            clear ht_
            go_roundg (L - (y + 1).toNat)
            case measure => go_light; have := HY.out; omega
            case rel =>
              go_light
              refine ⟨y + 1, by have hw : wrap64 (y + 1) = y + 1 := (by unfold wrap64; omega); first | rfl | (rw [hw]; done) | (simp [hw]; done), ⟨by omega, by omega, by omega⟩, ⟨?_⟩⟩
              have h2 := P.out.word HLO.out y.toNat (Go.bits .andNot .u64 xo wd)
              rw [show (y + 1).toNat = y.toNat + 1 by omega]
              have e1 : isTo on1 (isTo on0 O0 X0 L) X1 (y.toNat + 1) = O.set y.toNat (Go.bits .andNot .u64 xo wd) := by
                have hwd : X1.getD y.toNat 0 = wd := HWD.out
                show (isTo on1 (isTo on0 O0 X0 L) X1 y.toNat).set y.toNat _ = _
                rw [HO.out, hwd, HXO.out, HT.out]
                rfl
              rw [e1]
              exact h2
        · have hy : y = L := by have := HY.out; omega
          have h2 := P.out
          rw [hy, Int.toNat_natCast] at h2
          clear P
          have P := Aside0.mk h2
          clear h2
          subst hy
          have t0_ := P.out.t0
          have t1_ := P.out.t1
          go_wp2
          rw [rounds_succ]
          have hix_ : ∀ W : World, (Instr.index 54 (.agg #[.int .i64 m, .slice A0 L c0, .int .i64 m, .slice A1 L c1, .int .i64 m, .slice A2 L c2, .int .i64 m, .slice A3 L c3]) (.int .i64 2)).run Try.prog W = .ok (.agg #[.int .i64 m, .slice A2 L c2]) W := fun W => index4_2 _ _ _ _ _ _ _ _ W
          go_wp2
          clear hix_
          have P2 := P.out.on (below_alloc (Below.refl _ _) (.cells #[.int .i64 m, .slice A2 L c2] 31))
          clear P t0_ t1_
          have P := Aside0.mk P2
          clear P2
          generalize World.alloc _ _ = wa at P ⊢
          have t0_ := P.out.t0
          have t1_ := P.out.t1
          go_loopg [42] L (fun q2_ s42 wx => ∃ y : Int, s42 = .int .i64 y ∧ Aside0 (0 ≤ y ∧ y ≤ L ∧ (q2_ : Int) = L - y) ∧ Aside0 (IS w wx b r t #[.int .i64 m, .slice A0 L c0, .int .i64 m, .slice A1 L c1, .int .i64 m, .slice A2 L c2, .int .i64 m, .slice A3 L c3] m (.slice Ao L co) (isTo on2 (isTo on1 (isTo on0 O0 X0 L) X1 L) X2 y.toNat)))
          case atStart => exact ⟨0, rfl, ⟨by omega, by omega, by omega⟩, P⟩
          case round =>
            clear P t0_ t1_
            obtain ⟨y, rfl, HY, P⟩ := hrel
            have t0_ := P.out.t0
            have t1_ := P.out.t1
            by_cases qy : y < L
            · have p : 0 ≤ y := HY.out.1
              obtain ⟨ad, e_, hw0⟩ := Kd.at_int HC2.out y p (by have := HX2.out; omega)
              subst e_
              have hw_ : wr.cell? (ad.add y.toNat) = some (.int .u64 (rd X2 y)) := (P.out.be.cell (CountWalk.cell_lt hw0)).trans hw0
              clear hw0
              obtain ⟨wd, hwd⟩ : ∃ q, rd X2 y = q := ⟨_, rfl⟩
              rw [hwd] at hw_
              have HWD := Aside0.mk hwd
              clear hwd
              obtain ⟨O, hO⟩ : ∃ q, isTo on2 (isTo on1 (isTo on0 O0 X0 L) X1 L) X2 y.toNat = q := ⟨_, rfl⟩
              rw [hO] at P
              have HO := Aside0.mk hO
              clear hO
              obtain ⟨g, e_⟩ := own_some' P.out.own (by omega)
              subst e_
              have hlo : L = O.length := own_len' P.out.own
              obtain ⟨xo, hxo⟩ : ∃ q, O.getD y.toNat 0 = q := ⟨_, rfl⟩
              have sc_ : wr.cell? ⟨g, y.toNat, none⟩ = some (.int .u64 xo) := (CountWalk.own_word P.out.own y p (by omega)).trans (by rw [hxo])
              have sf_ := own_free P.out.own y.toNat
              have HXO := Aside0.mk hxo
              have HLO := Aside0.mk hlo
              clear hlo hxo
              go_wp2
              · have ht_ : (Go.bits .and .i64 (n / 4) 1 == 1) = true := by assumption
                have HT := Aside0.mk (HON2.out.symm.trans ht_)
                clear ht_
                go_roundg (L - (y + 1).toNat)
                case measure => go_light; have := HY.out; omega
                case rel =>
                  go_light
                  refine ⟨y + 1, by have hw : wrap64 (y + 1) = y + 1 := (by unfold wrap64; omega); first | rfl | (rw [hw]; done) | (simp [hw]; done), ⟨by omega, by omega, by omega⟩, ⟨?_⟩⟩
                  have h2 := P.out.word HLO.out y.toNat (Go.bits .and .u64 xo wd)
                  rw [show (y + 1).toNat = y.toNat + 1 by omega]
                  have e1 : isTo on2 (isTo on1 (isTo on0 O0 X0 L) X1 L) X2 (y.toNat + 1) = O.set y.toNat (Go.bits .and .u64 xo wd) := by
                    have hwd : X2.getD y.toNat 0 = wd := HWD.out
                    show (isTo on2 (isTo on1 (isTo on0 O0 X0 L) X1 L) X2 y.toNat).set y.toNat _ = _
                    rw [HO.out, hwd, HXO.out, HT.out]
                    rfl
                  rw [e1]
                  exact h2
              · have ht_ : (Go.bits .and .i64 (n / 4) 1 == 1) = false := by assumption
                have HT := Aside0.mk (HON2.out.symm.trans ht_)
                clear ht_
                go_roundg (L - (y + 1).toNat)
                case measure => go_light; have := HY.out; omega
                case rel =>
                  go_light
                  refine ⟨y + 1, by have hw : wrap64 (y + 1) = y + 1 := (by unfold wrap64; omega); first | rfl | (rw [hw]; done) | (simp [hw]; done), ⟨by omega, by omega, by omega⟩, ⟨?_⟩⟩
                  have h2 := P.out.word HLO.out y.toNat (Go.bits .andNot .u64 xo wd)
                  rw [show (y + 1).toNat = y.toNat + 1 by omega]
                  have e1 : isTo on2 (isTo on1 (isTo on0 O0 X0 L) X1 L) X2 (y.toNat + 1) = O.set y.toNat (Go.bits .andNot .u64 xo wd) := by
                    have hwd : X2.getD y.toNat 0 = wd := HWD.out
                    show (isTo on2 (isTo on1 (isTo on0 O0 X0 L) X1 L) X2 y.toNat).set y.toNat _ = _
                    rw [HO.out, hwd, HXO.out, HT.out]
                    rfl
                  rw [e1]
                  exact h2
            · have hy : y = L := by have := HY.out; omega
              have h2 := P.out
              rw [hy, Int.toNat_natCast] at h2
              clear P
              have P := Aside0.mk h2
              clear h2
              subst hy
              have t0_ := P.out.t0
              have t1_ := P.out.t1
              go_wp2
              rw [rounds_succ]
              have hix_ : ∀ W : World, (Instr.index 54 (.agg #[.int .i64 m, .slice A0 L c0, .int .i64 m, .slice A1 L c1, .int .i64 m, .slice A2 L c2, .int .i64 m, .slice A3 L c3]) (.int .i64 3)).run Try.prog W = .ok (.agg #[.int .i64 m, .slice A3 L c3]) W := fun W => index4_3 _ _ _ _ _ _ _ _ W
              go_wp2
              clear hix_
              have P2 := P.out.on (below_alloc (Below.refl _ _) (.cells #[.int .i64 m, .slice A3 L c3] 31))
              clear P t0_ t1_
              have P := Aside0.mk P2
              clear P2
              generalize World.alloc _ _ = wa at P ⊢
              have t0_ := P.out.t0
              have t1_ := P.out.t1
              go_loopg [42] L (fun q2_ s42 wx => ∃ y : Int, s42 = .int .i64 y ∧ Aside0 (0 ≤ y ∧ y ≤ L ∧ (q2_ : Int) = L - y) ∧ Aside0 (IS w wx b r t #[.int .i64 m, .slice A0 L c0, .int .i64 m, .slice A1 L c1, .int .i64 m, .slice A2 L c2, .int .i64 m, .slice A3 L c3] m (.slice Ao L co) (isTo on3 (isTo on2 (isTo on1 (isTo on0 O0 X0 L) X1 L) X2 L) X3 y.toNat)))
              case atStart => exact ⟨0, rfl, ⟨by omega, by omega, by omega⟩, P⟩
              case round =>
                clear P t0_ t1_
                obtain ⟨y, rfl, HY, P⟩ := hrel
                have t0_ := P.out.t0
                have t1_ := P.out.t1
                by_cases qy : y < L
                · have p : 0 ≤ y := HY.out.1
                  obtain ⟨ad, e_, hw0⟩ := Kd.at_int HC3.out y p (by have := HX3.out; omega)
                  subst e_
                  have hw_ : wr.cell? (ad.add y.toNat) = some (.int .u64 (rd X3 y)) := (P.out.be.cell (CountWalk.cell_lt hw0)).trans hw0
                  clear hw0
                  obtain ⟨wd, hwd⟩ : ∃ q, rd X3 y = q := ⟨_, rfl⟩
                  rw [hwd] at hw_
                  have HWD := Aside0.mk hwd
                  clear hwd
                  obtain ⟨O, hO⟩ : ∃ q, isTo on3 (isTo on2 (isTo on1 (isTo on0 O0 X0 L) X1 L) X2 L) X3 y.toNat = q := ⟨_, rfl⟩
                  rw [hO] at P
                  have HO := Aside0.mk hO
                  clear hO
                  obtain ⟨g, e_⟩ := own_some' P.out.own (by omega)
                  subst e_
                  have hlo : L = O.length := own_len' P.out.own
                  obtain ⟨xo, hxo⟩ : ∃ q, O.getD y.toNat 0 = q := ⟨_, rfl⟩
                  have sc_ : wr.cell? ⟨g, y.toNat, none⟩ = some (.int .u64 xo) := (CountWalk.own_word P.out.own y p (by omega)).trans (by rw [hxo])
                  have sf_ := own_free P.out.own y.toNat
                  have HXO := Aside0.mk hxo
                  have HLO := Aside0.mk hlo
                  clear hlo hxo
                  go_wp2
                  · have ht_ : (Go.bits .and .i64 (n / 8) 1 == 1) = true := by assumption
                    have HT := Aside0.mk (HON3.out.symm.trans ht_)
                    clear ht_
                    go_roundg (L - (y + 1).toNat)
                    case measure => go_light; have := HY.out; omega
                    case rel =>
                      go_light
                      refine ⟨y + 1, by have hw : wrap64 (y + 1) = y + 1 := (by unfold wrap64; omega); first | rfl | (rw [hw]; done) | (simp [hw]; done), ⟨by omega, by omega, by omega⟩, ⟨?_⟩⟩
                      have h2 := P.out.word HLO.out y.toNat (Go.bits .and .u64 xo wd)
                      rw [show (y + 1).toNat = y.toNat + 1 by omega]
                      have e1 : isTo on3 (isTo on2 (isTo on1 (isTo on0 O0 X0 L) X1 L) X2 L) X3 (y.toNat + 1) = O.set y.toNat (Go.bits .and .u64 xo wd) := by
                        have hwd : X3.getD y.toNat 0 = wd := HWD.out
                        show (isTo on3 (isTo on2 (isTo on1 (isTo on0 O0 X0 L) X1 L) X2 L) X3 y.toNat).set y.toNat _ = _
                        rw [HO.out, hwd, HXO.out, HT.out]
                        rfl
                      rw [e1]
                      exact h2
                  · have ht_ : (Go.bits .and .i64 (n / 8) 1 == 1) = false := by assumption
                    have HT := Aside0.mk (HON3.out.symm.trans ht_)
                    clear ht_
                    go_roundg (L - (y + 1).toNat)
                    case measure => go_light; have := HY.out; omega
                    case rel =>
                      go_light
                      refine ⟨y + 1, by have hw : wrap64 (y + 1) = y + 1 := (by unfold wrap64; omega); first | rfl | (rw [hw]; done) | (simp [hw]; done), ⟨by omega, by omega, by omega⟩, ⟨?_⟩⟩
                      have h2 := P.out.word HLO.out y.toNat (Go.bits .andNot .u64 xo wd)
                      rw [show (y + 1).toNat = y.toNat + 1 by omega]
                      have e1 : isTo on3 (isTo on2 (isTo on1 (isTo on0 O0 X0 L) X1 L) X2 L) X3 (y.toNat + 1) = O.set y.toNat (Go.bits .andNot .u64 xo wd) := by
                        have hwd : X3.getD y.toNat 0 = wd := HWD.out
                        show (isTo on3 (isTo on2 (isTo on1 (isTo on0 O0 X0 L) X1 L) X2 L) X3 y.toNat).set y.toNat _ = _
                        rw [HO.out, hwd, HXO.out, HT.out]
                        rfl
                      rw [e1]
                      exact h2
                · have hy : y = L := by have := HY.out; omega
                  have h2 := P.out
                  rw [hy, Int.toNat_natCast] at h2
                  clear P
                  have P := Aside0.mk h2
                  clear h2
                  subst hy
                  have t0_ := P.out.t0
                  have t1_ := P.out.t1
                  go_wp2
                  rw [rounds_succ]
                  have z0_ := (blk_cell P.out.rx 0).trans (show ((#[Value.int .i64 0, Value.slice none 0 0] : Array Value)[0]?) = some (.int .i64 0) from rfl)
                  have z1_ := (blk_cell P.out.rx 1).trans (show ((#[Value.int .i64 0, Value.slice none 0 0] : Array Value)[1]?) = some (.slice none 0 0) from rfl)
                  have f0_ := blk_frozen P.out.rx 0
                  have f1_ := blk_frozen P.out.rx 1
                  go_wp2
                  have hrx := P.out.rx
                  exact bodyPost_ret (results_ct rfl _ _ r 31 #[.int .i64 m, .slice Ao L co] (0, 0) _ rfl (blk_put (cs := #[.int .i64 m, .slice none 0 0]) (blk_put hrx 0 _ rfl) 1 _ rfl) hu rfl (by kernel_rfl)) rfl ⟨_, rfl, own_set_other (own_set_other P.out.own hrx (by decide)) (blk_put (cs' := #[.int .i64 m, .slice none 0 0]) hrx 0 _ rfl) (by decide), below_set (below_set P.out.be P.out.re) P.out.re⟩
end Go.Proofs.Ytlghmadoogblcaa.IsWalk
end
