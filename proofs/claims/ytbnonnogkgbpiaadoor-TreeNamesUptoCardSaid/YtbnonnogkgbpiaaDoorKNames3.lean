/- TreeNames proved, the tied card of its second form: the closed sentence answers true: the errors and limits have their numbers. The library's table reads as its own text lays it (tied); what the arguments hold is bounded as the statement says. -/
import Derived.Test.YtbnonnogkgbpiaaDoorKNames2
section
namespace Go.Proofs.YtbnonnogkgbpiaaDoor.PT
open Go.RowKit Go.Proofs.YtbnonnogkgbpiaaDoorW.PrintWords Go.Proofs.YtbnonnogkgbpiaaDoorW.PrintLast Go.Proofs.YtbnonnogkgbpiaaDoorW.PrintMore
attribute [local go_sem] max2_int min2_int max_two min_two max_three min_three max_four min_four   -- for this text's walks alone
set_option linter.unusedVariables false
set_option linter.unusedSimpArgs false
mutual
def tree_Keeps.l0 : Nat → List Int → List Int → List Int → Int → Int → Int → Int → List (S49) → Int → Option (Bool × Int)
  | 0, _, _, _, _, _, _, _, _, _ => none
  | k + 1, x1, x9, x10, x41, x42, x130000, x130001, x130002, x130003 => if x42 < x41 then (tree_Keeps.l1 k x1 x9 x10 x42 x41 x42 (x9.length : Int) 0 x130000 x130001 x130002 x130003) else (some (true, 0))
def tree_Keeps.l1 : Nat → List Int → List Int → List Int → Int → Int → Int → Int → Int → Int → Int → List (S49) → Int → Option (Bool × Int)
  | 0, _, _, _, _, _, _, _, _, _, _, _, _ => none
  | k + 1, x1, x9, x10, x11, x41, x42, x46, x47, x130000, x130001, x130002, x130003 => if x47 < x46 then (if x130000 = 0 then (none) else (if 0 ≤ x47 then (if x47 < (x9.length : Int) then (tree_Keeps.l1 k x1 (x9.set (x47 : Int).toNat ((Int.tmod x11 x130000) % 256)) x10 (wrap64 (Int.tdiv x11 x130000)) x41 x42 x46 (wrap64 (x47 + 1)) x130000 x130001 x130002 x130003) else (none)) else (none))) else (tree_Keeps.l2 k x1 x9 x10 x41 x42 x1 (x1.length : Int) 0 x130000 x130001 x130002 x130003)
def tree_Keeps.l2 : Nat → List Int → List Int → List Int → Int → Int → List Int → Int → Int → Int → Int → List (S49) → Int → Option (Bool × Int)
  | 0, _, _, _, _, _, _, _, _, _, _, _, _ => none
  | k + 1, x1, x9, x10, x41, x42, x63, x64, x65, x130000, x130001, x130002, x130003 => if x65 < x64 then (if 0 ≤ x65 then (if x65 < (x63.length : Int) then (if 0 ≤ (rd x63 x65) then (if (rd x63 x65) < (x9.length : Int) then (if x65 < (x10.length : Int) then (tree_Keeps.l2 k x1 x9 (x10.set (x65 : Int).toNat (rd x9 (rd x63 x65))) x41 x42 x63 x64 (wrap64 (x65 + 1)) x130000 x130001 x130002 x130003) else (none)) else (none)) else (none)) else (none)) else (none)) else ((tree_at.f k x130000 x130001 x130002 x130003 x9).bind fun t144 => ((tree_at.f k x130000 x130001 x130002 x130003 x10).bind fun t145 => (if t144 = t145 then (tree_Keeps.l0 k x1 x9 x10 x41 (wrap64 (x42 + 1)) x130000 x130001 x130002 x130003) else (some (false, 0)))))
end
def tree_Keeps.f (k : Nat) (a0_0 : Int) (a0_1 : Int) (l0_2 : List (S49)) (a0_3 : Int) (l1 : List Int) : Option (Bool × Int) := (tree_Check.f k a0_0 a0_1 l0_2 a0_3).bind fun t130 => (if t130 = 0 then ((tree_order.f k l1 a0_1).bind fun t131 => (if t131 = true then ((tree_rowsOf.f k a0_0 a0_1).bind fun bt132 => (if bt132.2 = true then (if 0 ≤ a0_1 then (if (a0_1 : Int).toNat ≤ 281474976710656 then (tree_Keeps.l0 k l1 (List.replicate (a0_1 : Int).toNat 0) (List.replicate (a0_1 : Int).toNat 0) bt132.1 0 a0_0 a0_1 l0_2 a0_3) else (none)) else (none)) else (some (false, 4)))) else (some (false, 111)))) else (some (false, t130)))
def tree_Keeps.T9 : Bool × List (List Nat × List Nat) := (true, [([], []), ([0], [0]), ([1, 1], [1]), ([], []), ([3], [3]), ([4, 4], [4]), ([2, 0, 1, 2], [2]), ([5, 6, 0, 1, 2, 3, 4, 5, 6], [5])])
def tree_Keeps.B9 : List Nat := [0, 1, 3, 0, 8, 24, 7, 127]
theorem tree_Keeps.tab9 : rtab .any (opsOf Tryd.f40 9) = tree_Keeps.T9 := by kernel_rfl
theorem tree_Keeps.bits9 : waitsOk tree_Keeps.T9.2 tree_Keeps.B9 = true := by kernel_rfl
set_option maxHeartbeats 8000000 in
set_option maxRecDepth 100000 in
theorem tree_Keeps.calls (k : Nat) (a0_0 : Int) (a0_1 : Int) (A0_2 : Option Addr) (c0_2 : Nat) (l0_2 : List (S49)) (a0_3 : Int) (A1 : Option Addr) (c1 : Nat) (l1 : List Int) (r1 : Bool) (r2 : Int) (w : World) (hr0_2 : Kd.C k49 w A0_2 l0_2.length l0_2) (hc0_2 : l0_2.length ≤ c0_2) (hr1 : Kd.C (Kd.int .i64) w A1 l1.length l1) (hc1 : l1.length ≤ c1) (h : tree_Keeps.f k a0_0 a0_1 l0_2 a0_3 l1 = some (r1, r2)) :
    Calls Tryd.prog 40 #[.agg #[.int .i64 a0_0, .int .i64 a0_1, .slice A0_2 l0_2.length c0_2, .int .i64 a0_3], .slice A1 l1.length c1] w fun e w' => e = .returned (.tuple #[.bool r1, .int .i64 r2]) ∧ Below w.heap.size w w' := by
  have hu24 := Tryd.underlying24
  have HR0_2 := Aside0.mk hr0_2
  have HC0_2 := Aside0.mk hc0_2
  clear hr0_2 hc0_2
  have HR1 := Aside0.mk hr1
  have HC1 := Aside0.mk hc1
  clear hr1 hc1
  have HB := Aside0.mk (Below.refl w.heap.size w)
  have H : ((tree_Check.f k a0_0 a0_1 l0_2 a0_3).bind fun t130 => (if t130 = 0 then ((tree_order.f k l1 a0_1).bind fun t131 => (if t131 = true then ((tree_rowsOf.f k a0_0 a0_1).bind fun bt132 => (if bt132.2 = true then (if 0 ≤ a0_1 then (if (a0_1 : Int).toNat ≤ 281474976710656 then (tree_Keeps.l0 k l1 (List.replicate (a0_1 : Int).toNat 0) (List.replicate (a0_1 : Int).toNat 0) bt132.1 0 a0_0 a0_1 l0_2 a0_3) else (none)) else (none)) else (some (false, 4)))) else (some (false, 111)))) else (some (false, t130)))) = some (r1, r2) := h
  clear h
  replace H := Option.bind_eq_some_iff.mp H
  obtain ⟨t130, A30, H⟩ := H
  replace H : (if t130 = 0 then ((tree_order.f k l1 a0_1).bind fun t131 => (if t131 = true then ((tree_rowsOf.f k a0_0 a0_1).bind fun bt132 => (if bt132.2 = true then (if 0 ≤ a0_1 then (if (a0_1 : Int).toNat ≤ 281474976710656 then (tree_Keeps.l0 k l1 (List.replicate (a0_1 : Int).toNat 0) (List.replicate (a0_1 : Int).toNat 0) bt132.1 0 a0_0 a0_1 l0_2 a0_3) else (none)) else (none)) else (some (false, 4)))) else (some (false, 111)))) else (some (false, t130))) = some (r1, r2) := H
  have A3 := Aside0.mk A30
  clear A30
  by_cases c4 : t130 = 0
  · rw [if_pos c4] at H
    have c4b0 : (t130 == 0) = true := beq_iff_eq.mpr c4
    have c4b1 : (t130 != 0) = false := bne_eq_false_iff_eq.mpr c4
    clear c4
    replace H := Option.bind_eq_some_iff.mp H
    obtain ⟨t131, A50, H⟩ := H
    replace H : (if t131 = true then ((tree_rowsOf.f k a0_0 a0_1).bind fun bt132 => (if bt132.2 = true then (if 0 ≤ a0_1 then (if (a0_1 : Int).toNat ≤ 281474976710656 then (tree_Keeps.l0 k l1 (List.replicate (a0_1 : Int).toNat 0) (List.replicate (a0_1 : Int).toNat 0) bt132.1 0 a0_0 a0_1 l0_2 a0_3) else (none)) else (none)) else (some (false, 4)))) else (some (false, 111))) = some (r1, r2) := H
    have A5 := Aside0.mk A50
    clear A50
    by_cases c6 : t131 = true
    · subst c6
      have H1 : ((tree_rowsOf.f k a0_0 a0_1).bind fun bt132 => (if bt132.2 = true then (if 0 ≤ a0_1 then (if (a0_1 : Int).toNat ≤ 281474976710656 then (tree_Keeps.l0 k l1 (List.replicate (a0_1 : Int).toNat 0) (List.replicate (a0_1 : Int).toNat 0) bt132.1 0 a0_0 a0_1 l0_2 a0_3) else (none)) else (none)) else (some (false, 4)))) = some (r1, r2) := by rw [if_pos rfl] at H; exact H
      clear H
      have H := H1
      clear H1
      replace H := Option.bind_eq_some_iff.mp H
      obtain ⟨⟨t132, t133⟩, A70, H⟩ := H
      replace H : (if t133 = true then (if 0 ≤ a0_1 then (if (a0_1 : Int).toNat ≤ 281474976710656 then (tree_Keeps.l0 k l1 (List.replicate (a0_1 : Int).toNat 0) (List.replicate (a0_1 : Int).toNat 0) t132 0 a0_0 a0_1 l0_2 a0_3) else (none)) else (none)) else (some (false, 4))) = some (r1, r2) := H
      have A7 := Aside0.mk A70
      clear A70
      by_cases c8 : t133 = true
      · subst c8
        have H1 : (if 0 ≤ a0_1 then (if (a0_1 : Int).toNat ≤ 281474976710656 then (tree_Keeps.l0 k l1 (List.replicate (a0_1 : Int).toNat 0) (List.replicate (a0_1 : Int).toNat 0) t132 0 a0_0 a0_1 l0_2 a0_3) else (none)) else (none)) = some (r1, r2) := by rw [if_pos rfl] at H; exact H
        clear H
        have H := H1
        clear H1
        by_cases c9 : 0 ≤ a0_1
        · rw [if_pos c9] at H
          have c9b0 := eq_true c9
          have c9b1 : decide (0 ≤ a0_1) = true := decide_eq_true c9
          clear c9
          by_cases c10 : (a0_1 : Int).toNat ≤ 281474976710656
          · rw [if_pos c10] at H
            have c10b0 := eq_true c10
            have c10b1 : decide ((a0_1 : Int).toNat ≤ 281474976710656) = true := decide_eq_true c10
            clear c10
            obtain ⟨y134, hy134⟩ : ∃ y_ : List Int, y_ = (List.replicate (a0_1 : Int).toNat 0) := ⟨_, rfl⟩
            replace H : (tree_Keeps.l0 k l1 y134 (List.replicate (a0_1 : Int).toNat 0) t132 0 a0_0 a0_1 l0_2 a0_3) = some (r1, r2) := by first | (rw [hy134]; with_reducible exact H) | (have H2_ := (Option.bind_some _ _).symm.trans H; rw [hy134]; with_reducible exact H2_) | (have H2_ := (Option.bind_some _ _).symm.trans H; with_reducible exact H2_) | with_reducible exact H | (rw [hy134]; exact H) | exact H
            have Ny134 := Aside0.mk hy134
            clear hy134
            obtain ⟨y137, hy137⟩ : ∃ y_ : List Int, y_ = (List.replicate (a0_1 : Int).toNat 0) := ⟨_, rfl⟩
            replace H : (tree_Keeps.l0 k l1 y134 y137 t132 0 a0_0 a0_1 l0_2 a0_3) = some (r1, r2) := by first | (rw [hy137]; with_reducible exact H) | (have H2_ := (Option.bind_some _ _).symm.trans H; rw [hy137]; with_reducible exact H2_) | (have H2_ := (Option.bind_some _ _).symm.trans H; with_reducible exact H2_) | with_reducible exact H | (rw [hy137]; exact H) | exact H
            have Ny137 := Aside0.mk hy137
            clear hy137
            have H' := Aside0.mk H
            clear H
            go_enter Tryd.func40, Tryd.ntmps40
            try go_wp2_with (first | ((with_reducible refine gate_dst (N := 2) rfl ?_); refine box_event ?hg (N := 2) ?hd (cs := #[.int .i64 a0_0, .int .i64 a0_1, .slice A0_2 l0_2.length c0_2, .int .i64 a0_3]) (t := 24) ?hr ?_; (case hd => rfl); (case hg => rfl); (case hr => first | (go_simp; done) | (go_simp; rfl)); intro gb129 hg w11 hbox hb; have n0_ := Aside0.mk (below_step (by repeat (first | (with_reducible first | exact HB.out | apply below_alloc | apply pw_below_drewN | apply below_drew1) | exact HB.out)) hb); have n1_ := Aside0.mk (hbox); have n2_ := Aside0.mk ((by rw [hg]; exact (below_size (by repeat (first | (with_reducible first | exact HB.out | apply below_alloc | apply pw_below_drewN | apply below_drew1) | exact HB.out))) : w.heap.size ≤ gb129)); have n3_ := Aside0.mk ((by rw [hg]; exact (below_size (by repeat (first | (with_reducible first | exact HB.out | apply below_alloc | apply pw_below_drewN | apply below_drew1) | exact HB.out))) : w.heap.size ≤ gb129)); clear HB; have HB := n0_; have BK129 := n1_; have GW129 := n2_; have GE129 := n3_; clear n0_ n1_ n2_ n3_; clear hb hbox hg; have hcz12_0 : w11.cell? ⟨gb129, 0, none⟩ = some (.int .i64 a0_0) := (blk_cell BK129.out 0).trans rfl; have hcz12_1 : w11.cell? ⟨gb129, 1, none⟩ = some (.int .i64 a0_1) := (blk_cell BK129.out 1).trans rfl; have hcz12_2 : w11.cell? ⟨gb129, 2, none⟩ = some (.slice A0_2 l0_2.length c0_2) := (blk_cell BK129.out 2).trans rfl; have hcz12_3 : w11.cell? ⟨gb129, 3, none⟩ = some (.int .i64 a0_3) := (blk_cell BK129.out 3).trans rfl; have hfz12_0 := blk_frozen BK129.out 0; have hfz12_1 := blk_frozen BK129.out 1; have hfz12_2 := blk_frozen BK129.out 2; have hfz12_3 := blk_frozen BK129.out 3) | ((with_reducible refine gate_callee (f := 22) rfl ?_); refine goesL_ (some 16) rfl rfl Tryd.func22 (by kernel_rfl) rfl #[.agg #[.int .i64 a0_0, .int .i64 a0_1, .slice A0_2 l0_2.length c0_2, .int .i64 a0_3]] rfl (by (try simp only [List.map_toArray, List.map_cons, List.map_nil]); first | done | rfl | (simp only [List.length_drop, List.length_take]; rfl)) ?_; (with_reducible refine (tree_Check.calls k a0_0 a0_1 _ _ l0_2 a0_3 t130 _ ?side1 ?side2 A3.out).mono ?_); (case side1 => repeat (first | exact (Kd.C_below HR0_2.out HB.out) | (with_reducible refine Kd.C_alloc ?_ _) | (with_reducible refine Kd.C_drewN ?_ _) | (with_reducible refine Kd.C_drew ?_))); (case side2 => exact HC0_2.out); rintro e w13 ⟨rfl, hb⟩; refine ⟨_, rfl, ?_⟩; have n0_ := Aside0.mk (blk_below (g := gb129) (o := .cells #[.int .i64 a0_0, .int .i64 a0_1, .slice A0_2 l0_2.length c0_2, .int .i64 a0_3] 24 (0, 0)) (by (with_reducible repeat (first | refine blk_drewN ?_ _ | refine blk_drew ?_ | refine blk_alloc ?_ _)); exact BK129.out) hb); have n1_ := Aside0.mk (below_step (by repeat (first | (with_reducible first | exact HB.out | apply below_alloc | apply pw_below_drewN | apply below_drew1 | refine below_set ?_ GE129.out) | exact HB.out)) hb); clear BK129; clear HB; have BK129 := n0_; have HB := n1_; clear n0_ n1_; (try clear hb); (try clear hb2); (try clear hk); (try clear hi); have hcz14_0 : w13.cell? ⟨gb129, 0, none⟩ = some (.int .i64 a0_0) := (blk_cell BK129.out 0).trans rfl; have hcz14_1 : w13.cell? ⟨gb129, 1, none⟩ = some (.int .i64 a0_1) := (blk_cell BK129.out 1).trans rfl; have hcz14_2 : w13.cell? ⟨gb129, 2, none⟩ = some (.slice A0_2 l0_2.length c0_2) := (blk_cell BK129.out 2).trans rfl; have hcz14_3 : w13.cell? ⟨gb129, 3, none⟩ = some (.int .i64 a0_3) := (blk_cell BK129.out 3).trans rfl; have hfz14_0 := blk_frozen BK129.out 0; have hfz14_1 := blk_frozen BK129.out 1; have hfz14_2 := blk_frozen BK129.out 2; have hfz14_3 := blk_frozen BK129.out 3) | ((with_reducible refine gate_callee (f := 74) rfl ?_); refine goesL_ (some 23) rfl rfl Tryd.func74 (by kernel_rfl) rfl #[.slice A1 l1.length c1, .int .i64 a0_1] rfl (by (try simp only [List.map_toArray, List.map_cons, List.map_nil]); first | done | rfl | (simp only [List.length_drop, List.length_take]; rfl)) ?_; (with_reducible refine (tree_order.calls k _ _ l1 a0_1 true _ ?side1 ?side2 A5.out).mono ?_); (case side1 => repeat (first | exact (Kd.C_below HR1.out HB.out) | (with_reducible refine Kd.C_alloc ?_ _) | (with_reducible refine Kd.C_drewN ?_ _) | (with_reducible refine Kd.C_drew ?_))); (case side2 => exact HC1.out); rintro e w15 ⟨rfl, hb⟩; refine ⟨_, rfl, ?_⟩; have n0_ := Aside0.mk (blk_below (g := gb129) (o := .cells #[.int .i64 a0_0, .int .i64 a0_1, .slice A0_2 l0_2.length c0_2, .int .i64 a0_3] 24 (0, 0)) (by (with_reducible repeat (first | refine blk_drewN ?_ _ | refine blk_drew ?_ | refine blk_alloc ?_ _)); exact BK129.out) hb); have n1_ := Aside0.mk (below_step (by repeat (first | (with_reducible first | exact HB.out | apply below_alloc | apply pw_below_drewN | apply below_drew1 | refine below_set ?_ GE129.out) | exact HB.out)) hb); clear BK129; clear HB; have BK129 := n0_; have HB := n1_; clear n0_ n1_; (try clear hb); (try clear hb2); (try clear hk); (try clear hi); have hcz16_0 : w15.cell? ⟨gb129, 0, none⟩ = some (.int .i64 a0_0) := (blk_cell BK129.out 0).trans rfl; have hcz16_1 : w15.cell? ⟨gb129, 1, none⟩ = some (.int .i64 a0_1) := (blk_cell BK129.out 1).trans rfl; have hcz16_2 : w15.cell? ⟨gb129, 2, none⟩ = some (.slice A0_2 l0_2.length c0_2) := (blk_cell BK129.out 2).trans rfl; have hcz16_3 : w15.cell? ⟨gb129, 3, none⟩ = some (.int .i64 a0_3) := (blk_cell BK129.out 3).trans rfl; have hfz16_0 := blk_frozen BK129.out 0; have hfz16_1 := blk_frozen BK129.out 1; have hfz16_2 := blk_frozen BK129.out 2; have hfz16_3 := blk_frozen BK129.out 3) | ((with_reducible refine gate_callee (f := 70) rfl ?_); refine goesL_ (some 30) rfl rfl Tryd.func70 (by kernel_rfl) rfl #[.int .i64 a0_0, .int .i64 a0_1] rfl (by (try simp only [List.map_toArray, List.map_cons, List.map_nil]); first | done | rfl | (simp only [List.length_drop, List.length_take]; rfl)) ?_; (with_reducible refine (tree_rowsOf.calls k a0_0 a0_1 t132 true _ A7.out).mono ?_); rintro e w' ⟨rfl, ⟨nd, rfl⟩⟩; refine ⟨_, rfl, ?_⟩))
            (try (rw [drewN_self w15]; generalize hq_ : World.drewN w15 _ = w15; have n0_ : Aside0 (w15.heap[gb129]? = some (.cells #[.int .i64 a0_0, .int .i64 a0_1, .slice A0_2 l0_2.length c0_2, .int .i64 a0_3] 24 (0, 0))) := ⟨by rw [← hq_]; exact (by (with_reducible repeat (first | refine blk_drewN ?_ _ | refine blk_drew ?_ | refine blk_alloc ?_ _)); exact BK129.out)⟩; have n1_ : Aside0 (Below w.heap.size w w15) := ⟨by rw [← hq_]; exact (by repeat (first | (with_reducible first | exact HB.out | apply below_alloc | apply pw_below_drewN | apply below_drew1 | refine below_set ?_ GE129.out) | exact HB.out))⟩; clear BK129 HB hq_; have BK129 := n0_; have HB := n1_; clear n0_ n1_))
            have n0_ := Aside0.mk (blk_drew BK129.out)
            have n1_ := Aside0.mk (below_drew1 HB.out)
            clear BK129
            clear HB
            have BK129 := n0_
            have HB := n1_
            clear n0_ n1_
            refine start_ (n := 8) (S := fun w' => w'.cell? ⟨gb129, 0, none⟩ = some (.int .i64 a0_0) ∧ w'.cell? ⟨gb129, 1, none⟩ = some (.int .i64 a0_1) ∧ w'.cell? ⟨gb129, 2, none⟩ = some (.slice A0_2 l0_2.length c0_2) ∧ w'.cell? ⟨gb129, 3, none⟩ = some (.int .i64 a0_3)) (ds := []) #[false, false, false, false, false, false, false, false] (by kernel_rfl) rfl rfl ⟨(blk_cell BK129.out 0).trans rfl, (blk_cell BK129.out 1).trans rfl, (blk_cell BK129.out 2).trans rfl, (blk_cell BK129.out 3).trans rfl⟩ (fun hHeld => ?_); refine with_tabW tree_Keeps.tab9 tree_Keeps.bits9 (fun HT_ HW_ => ?_)
            generalize w15.drew = w17 at BK129 HB hHeld ⊢
            refine pure_ (i := 0) (N := some 35) (v := ?_) (a' := ?_) #[true, false, false, false, false, false, false, false] rfl rfl (any_of HT_.out (by kernel_rfl)) (fun _ _ _ h => h) (Or.inl ⟨by rfl, ?_⟩) ?_ ?_
            rotate_left
            · intro w'
              go_simp
              with_reducible rfl
            rotate_left
            · simp only [Act.put, List.setIfInBounds_toArray, List.set_cons_zero, List.set_cons_succ, i64_w, i32_w]
              rfl
            refine pure_ (i := 3) (N := some 38) (v := ?_) (a' := ?_) #[true, false, false, true, false, false, false, false] rfl rfl (any_of HT_.out (by kernel_rfl)) (fun _ _ _ h => h) (Or.inl ⟨by rfl, ?_⟩) ?_ ?_
            rotate_left
            · intro w'
              go_simp
              with_reducible rfl
            rotate_left
            · simp only [Act.put, List.setIfInBounds_toArray, List.set_cons_zero, List.set_cons_succ, i64_w, i32_w]
              rfl
            refine take_ (i := 1) (N := some 36) (v := ?_) (a' := ?_) #[true, true, false, true, false, false, false, false] rfl rfl (take_ofW HT_.out HW_.out (by kernel_rfl)) (fun _ _ _ h => h) (Or.inl ⟨by rfl, ?_⟩) hHeld ?_ ?_
            rotate_left
            · rintro w' ⟨s0, s1, s2, s3⟩
              go_simp
              with_reducible rfl
            rotate_left
            · simp only [Act.put, List.setIfInBounds_toArray, List.set_cons_zero, List.set_cons_succ, i64_w, i32_w]
              rfl
            refine take_ (i := 4) (N := some 39) (v := ?_) (a' := ?_) #[true, true, false, true, true, false, false, false] rfl rfl (take_ofW HT_.out HW_.out (by kernel_rfl)) (fun _ _ _ h => h) (Or.inl ⟨by rfl, ?_⟩) hHeld ?_ ?_
            rotate_left
            · rintro w' ⟨s0, s1, s2, s3⟩
              go_simp
              with_reducible rfl
            rotate_left
            · simp only [Act.put, List.setIfInBounds_toArray, List.set_cons_zero, List.set_cons_succ, i64_w, i32_w]
              rfl
            refine join_ (σ := Value × Value) 1 #[true, true, true, true, true, true, true, false] (fun s_ => [(37, s_.1), (40, s_.2), (9, s_.1)]) (fun s_ w' => (w'.cell? ⟨gb129, 0, none⟩ = some (.int .i64 a0_0) ∧ w'.cell? ⟨gb129, 1, none⟩ = some (.int .i64 a0_1) ∧ w'.cell? ⟨gb129, 2, none⟩ = some (.slice A0_2 l0_2.length c0_2) ∧ w'.cell? ⟨gb129, 3, none⟩ = some (.int .i64 a0_3)) ∧ (Kd.R (Kd.int .u8) 5 w' w.heap.size (fun k_ => some k_ ≠ (s_.2 : Value).ownBlock) s_.1 y134) ∧ (Kd.R (Kd.int .u8) 5 w' w.heap.size (fun k_ => some k_ ≠ (s_.1 : Value).ownBlock) s_.2 y137) ∧ (w'.heap[gb129]? = some (.cells #[.int .i64 a0_0, .int .i64 a0_1, .slice A0_2 l0_2.length c0_2, .int .i64 a0_3] 24 (0, 0))) ∧ (Below w.heap.size w w')) ?_ ?_
            rotate_left
            · intro hCont
              refine two_ (i := 2) (j := 5) (Ni := some 37) (Nj := some 40) #[true, true, true, true, true, false, false, false] #[true, true, false, true, true, true, false, false] rfl rfl rfl rfl (two_of HT_.out (by kernel_rfl)) (by decide) (by decide) (fun K hK => ?_) (fun K hK => ?_)
              · skip
                refine Kd.R_make_step (Kd.int .u8) _ 5 (by rfl) (N := 37) rfl 33 _ _ rfl a0_1 rfl rfl Tryd.underlying33 (.int .u8 0) 1 info5 rfl (by decide) (by omega) 0 (ok := fun _ => True) (okp := fun _ => True) rfl (fun _ hk => hk) trivial (of_decide_eq_true (by first | (with_reducible assumption) | assumption)) (Nat.le_trans (Nat.mul_le_mul_right _ (of_decide_eq_true (by first | (with_reducible assumption) | assumption) : a0_1.toNat ≤ 281474976710656)) (by omega)) (Below.refl _ _) (Nat.le_refl _) ?_
                intro v135 w18 ho19 hb hg_ hnew_
                clear hg_ hnew_
                (first | rw [← Ny134.out] at ho19 | (simp only [Int.reduceToNat] at ho19; rw [← Ny134.out] at ho19))
                have n0_ := Aside0.mk (Kd.R_lower ho19 (below_size (by repeat (first | (with_reducible first | exact HB.out | apply below_alloc | apply pw_below_drewN | apply below_drew1 | refine below_set ?_ GE129.out) | exact HB.out))))
                have n1_ := Aside0.mk (blk_below (g := gb129) (o := .cells #[.int .i64 a0_0, .int .i64 a0_1, .slice A0_2 l0_2.length c0_2, .int .i64 a0_3] 24 (0, 0)) (by (with_reducible repeat (first | refine blk_drewN ?_ _ | refine blk_drew ?_ | refine blk_alloc ?_ _)); exact BK129.out) hb)
                have n2_ := Aside0.mk (below_step (by repeat (first | (with_reducible first | exact HB.out | apply below_alloc | apply pw_below_drewN | apply below_drew1 | refine below_set ?_ GE129.out) | exact HB.out)) hb)
                clear BK129
                clear HB
                have HO136 := n0_
                have BK129 := n1_
                have HB := n2_
                clear n0_ n1_ n2_
                clear hb ho19
                refine hK.out _ _ ⟨(blk_cell BK129.out 0).trans rfl, (blk_cell BK129.out 1).trans rfl, (blk_cell BK129.out 2).trans rfl, (blk_cell BK129.out 3).trans rfl⟩ (fun hHeld => ?_)
                clear hK K
                refine norm_ (a' := ?_) ?_ ?_
                rotate_left
                · show Act.put _ (some 37) _ = _
                  simp only [Act.put, List.setIfInBounds_toArray, List.set_cons_zero, List.set_cons_succ, i64_w, i32_w]
                  rfl
                refine pure_ (i := 6) (N := some 9) (v := ?_) (a' := ?_) #[true, true, true, true, true, false, true, false] rfl rfl (any_of HT_.out (by kernel_rfl)) (fun _ _ _ h => h) (Or.inl ⟨by rfl, ?_⟩) ?_ ?_
                rotate_left
                · intro w'
                  go_simp
                  with_reducible rfl
                rotate_left
                · simp only [Act.put, List.setIfInBounds_toArray, List.set_cons_zero, List.set_cons_succ, i64_w, i32_w]
                  rfl
                refine one_ (i := 5) (N := some 40) #[true, true, true, true, true, true, true, false] rfl rfl (one_of HT_.out (by kernel_rfl)) (by decide) (fun K hK => ?_)
                refine Kd.R_make_step (Kd.int .u8) _ 5 (by rfl) (N := 40) rfl 33 _ _ rfl a0_1 rfl rfl Tryd.underlying33 (.int .u8 0) 1 info5 rfl (by decide) (by omega) 0 (ok := fun _ => True) (okp := fun _ => True) rfl (fun _ hk => hk) trivial (of_decide_eq_true (by first | (with_reducible assumption) | assumption)) (Nat.le_trans (Nat.mul_le_mul_right _ (of_decide_eq_true (by first | (with_reducible assumption) | assumption) : a0_1.toNat ≤ 281474976710656)) (by omega)) (Below.refl _ _) (Nat.le_refl _) ?_
                intro v138 w20 ho21 hb hg_ hnew_
                clear hg_ hnew_
                (first | rw [← Ny137.out] at ho21 | (simp only [Int.reduceToNat] at ho21; rw [← Ny137.out] at ho21))
                have n0_ := Aside0.mk (Kd.R_elder' (by (with_reducible repeat (first | apply Kd.R_alloc | apply Kd.R_drewN | apply Kd.R_drew)); exact HO136.out) (Kd.R_base ho21) hb)
                have n1_ := Aside0.mk (Kd.R_lower (Kd.R_new' ho21 (Kd.R_lt (by (with_reducible repeat (first | apply Kd.R_alloc | apply Kd.R_drewN | apply Kd.R_drew)); exact HO136.out))) (below_size (by repeat (first | (with_reducible first | exact HB.out | apply below_alloc | apply pw_below_drewN | apply below_drew1 | refine below_set ?_ GE129.out) | exact HB.out))))
                have n2_ := Aside0.mk (blk_below (g := gb129) (o := .cells #[.int .i64 a0_0, .int .i64 a0_1, .slice A0_2 l0_2.length c0_2, .int .i64 a0_3] 24 (0, 0)) (by (with_reducible repeat (first | refine blk_drewN ?_ _ | refine blk_drew ?_ | refine blk_alloc ?_ _)); exact BK129.out) hb)
                have n3_ := Aside0.mk (below_step (by repeat (first | (with_reducible first | exact HB.out | apply below_alloc | apply pw_below_drewN | apply below_drew1 | refine below_set ?_ GE129.out) | exact HB.out)) hb)
                clear HO136
                clear BK129
                clear HB
                have HO136 := n0_
                have HO139 := n1_
                have BK129 := n2_
                have HB := n3_
                clear n0_ n1_ n2_ n3_
                clear hb ho21
                refine hK.out _ _ ⟨(blk_cell BK129.out 0).trans rfl, (blk_cell BK129.out 1).trans rfl, (blk_cell BK129.out 2).trans rfl, (blk_cell BK129.out 3).trans rfl⟩ (fun hHeld => ?_)
                clear hK K
                refine norm_ (a' := ?_) ?_ ?_
                rotate_left
                · show Act.put _ (some 40) _ = _
                  simp only [Act.put, List.setIfInBounds_toArray, List.set_cons_zero, List.set_cons_succ, i64_w, i32_w]
                  rfl
                exact norm_ (by simp only [putAll, Act.put, List.setIfInBounds_toArray, List.set_cons_zero, List.set_cons_succ]) (hCont (v135, v138) _ ⟨hHeld, (by (with_reducible repeat (first | apply Kd.R_alloc | apply Kd.R_drewN | apply Kd.R_drew)); exact Kd.R_mono HO136.out (fun _ hk => hk.2)), (by (with_reducible repeat (first | apply Kd.R_alloc | apply Kd.R_drewN | apply Kd.R_drew)); exact Kd.R_mono HO139.out (fun _ hk => hk.2)), (by (with_reducible repeat (first | refine blk_drewN ?_ _ | refine blk_drew ?_ | refine blk_alloc ?_ _)); exact BK129.out), (by repeat (first | (with_reducible first | exact HB.out | apply below_alloc | apply pw_below_drewN | apply below_drew1 | refine below_set ?_ GE129.out) | exact HB.out))⟩)
              · skip
                refine Kd.R_make_step (Kd.int .u8) _ 5 (by rfl) (N := 40) rfl 33 _ _ rfl a0_1 rfl rfl Tryd.underlying33 (.int .u8 0) 1 info5 rfl (by decide) (by omega) 0 (ok := fun _ => True) (okp := fun _ => True) rfl (fun _ hk => hk) trivial (of_decide_eq_true (by first | (with_reducible assumption) | assumption)) (Nat.le_trans (Nat.mul_le_mul_right _ (of_decide_eq_true (by first | (with_reducible assumption) | assumption) : a0_1.toNat ≤ 281474976710656)) (by omega)) (Below.refl _ _) (Nat.le_refl _) ?_
                intro v138 w18 ho19 hb hg_ hnew_
                clear hg_ hnew_
                (first | rw [← Ny137.out] at ho19 | (simp only [Int.reduceToNat] at ho19; rw [← Ny137.out] at ho19))
                have n0_ := Aside0.mk (Kd.R_lower ho19 (below_size (by repeat (first | (with_reducible first | exact HB.out | apply below_alloc | apply pw_below_drewN | apply below_drew1 | refine below_set ?_ GE129.out) | exact HB.out))))
                have n1_ := Aside0.mk (blk_below (g := gb129) (o := .cells #[.int .i64 a0_0, .int .i64 a0_1, .slice A0_2 l0_2.length c0_2, .int .i64 a0_3] 24 (0, 0)) (by (with_reducible repeat (first | refine blk_drewN ?_ _ | refine blk_drew ?_ | refine blk_alloc ?_ _)); exact BK129.out) hb)
                have n2_ := Aside0.mk (below_step (by repeat (first | (with_reducible first | exact HB.out | apply below_alloc | apply pw_below_drewN | apply below_drew1 | refine below_set ?_ GE129.out) | exact HB.out)) hb)
                clear BK129
                clear HB
                have HO139 := n0_
                have BK129 := n1_
                have HB := n2_
                clear n0_ n1_ n2_
                clear hb ho19
                refine hK.out _ _ ⟨(blk_cell BK129.out 0).trans rfl, (blk_cell BK129.out 1).trans rfl, (blk_cell BK129.out 2).trans rfl, (blk_cell BK129.out 3).trans rfl⟩ (fun hHeld => ?_)
                clear hK K
                refine norm_ (a' := ?_) ?_ ?_
                rotate_left
                · show Act.put _ (some 40) _ = _
                  simp only [Act.put, List.setIfInBounds_toArray, List.set_cons_zero, List.set_cons_succ, i64_w, i32_w]
                  rfl
                refine one_ (i := 2) (N := some 37) #[true, true, true, true, true, true, false, false] rfl rfl (one_of HT_.out (by kernel_rfl)) (by decide) (fun K hK => ?_)
                refine Kd.R_make_step (Kd.int .u8) _ 5 (by rfl) (N := 37) rfl 33 _ _ rfl a0_1 rfl rfl Tryd.underlying33 (.int .u8 0) 1 info5 rfl (by decide) (by omega) 0 (ok := fun _ => True) (okp := fun _ => True) rfl (fun _ hk => hk) trivial (of_decide_eq_true (by first | (with_reducible assumption) | assumption)) (Nat.le_trans (Nat.mul_le_mul_right _ (of_decide_eq_true (by first | (with_reducible assumption) | assumption) : a0_1.toNat ≤ 281474976710656)) (by omega)) (Below.refl _ _) (Nat.le_refl _) ?_
                intro v135 w20 ho21 hb hg_ hnew_
                clear hg_ hnew_
                (first | rw [← Ny134.out] at ho21 | (simp only [Int.reduceToNat] at ho21; rw [← Ny134.out] at ho21))
                have n0_ := Aside0.mk (Kd.R_elder' (by (with_reducible repeat (first | apply Kd.R_alloc | apply Kd.R_drewN | apply Kd.R_drew)); exact HO139.out) (Kd.R_base ho21) hb)
                have n1_ := Aside0.mk (Kd.R_lower (Kd.R_new' ho21 (Kd.R_lt (by (with_reducible repeat (first | apply Kd.R_alloc | apply Kd.R_drewN | apply Kd.R_drew)); exact HO139.out))) (below_size (by repeat (first | (with_reducible first | exact HB.out | apply below_alloc | apply pw_below_drewN | apply below_drew1 | refine below_set ?_ GE129.out) | exact HB.out))))
                have n2_ := Aside0.mk (blk_below (g := gb129) (o := .cells #[.int .i64 a0_0, .int .i64 a0_1, .slice A0_2 l0_2.length c0_2, .int .i64 a0_3] 24 (0, 0)) (by (with_reducible repeat (first | refine blk_drewN ?_ _ | refine blk_drew ?_ | refine blk_alloc ?_ _)); exact BK129.out) hb)
                have n3_ := Aside0.mk (below_step (by repeat (first | (with_reducible first | exact HB.out | apply below_alloc | apply pw_below_drewN | apply below_drew1 | refine below_set ?_ GE129.out) | exact HB.out)) hb)
                clear HO139
                clear BK129
                clear HB
                have HO139 := n0_
                have HO136 := n1_
                have BK129 := n2_
                have HB := n3_
                clear n0_ n1_ n2_ n3_
                clear hb ho21
                refine hK.out _ _ ⟨(blk_cell BK129.out 0).trans rfl, (blk_cell BK129.out 1).trans rfl, (blk_cell BK129.out 2).trans rfl, (blk_cell BK129.out 3).trans rfl⟩ (fun hHeld => ?_)
                clear hK K
                refine norm_ (a' := ?_) ?_ ?_
                rotate_left
                · show Act.put _ (some 37) _ = _
                  simp only [Act.put, List.setIfInBounds_toArray, List.set_cons_zero, List.set_cons_succ, i64_w, i32_w]
                  rfl
                refine pure_ (i := 6) (N := some 9) (v := ?_) (a' := ?_) #[true, true, true, true, true, true, true, false] rfl rfl (any_of HT_.out (by kernel_rfl)) (fun _ _ _ h => h) (Or.inl ⟨by rfl, ?_⟩) ?_ ?_
                rotate_left
                · intro w'
                  go_simp
                  with_reducible rfl
                rotate_left
                · simp only [Act.put, List.setIfInBounds_toArray, List.set_cons_zero, List.set_cons_succ, i64_w, i32_w]
                  rfl
                exact norm_ (by simp only [putAll, Act.put, List.setIfInBounds_toArray, List.set_cons_zero, List.set_cons_succ]) (hCont (v135, v138) _ ⟨hHeld, (by (with_reducible repeat (first | apply Kd.R_alloc | apply Kd.R_drewN | apply Kd.R_drew)); exact Kd.R_mono HO136.out (fun _ hk => hk.2)), (by (with_reducible repeat (first | apply Kd.R_alloc | apply Kd.R_drewN | apply Kd.R_drew)); exact Kd.R_mono HO139.out (fun _ hk => hk.2)), (by (with_reducible repeat (first | refine blk_drewN ?_ _ | refine blk_drew ?_ | refine blk_alloc ?_ _)); exact BK129.out), (by repeat (first | (with_reducible first | exact HB.out | apply below_alloc | apply pw_below_drewN | apply below_drew1 | refine below_set ?_ GE129.out) | exact HB.out))⟩)
            rintro ⟨v135, v138⟩ w22 ⟨hS_, h0_, h1_, h2_, h3_⟩
            have n0_ : Aside0 (Kd.R (Kd.int .u8) 5 w22 w.heap.size (fun k_ => some k_ ≠ (v138 : Value).ownBlock) v135 y134) := ⟨h0_⟩
            have n1_ : Aside0 (Kd.R (Kd.int .u8) 5 w22 w.heap.size (fun k_ => some k_ ≠ (v135 : Value).ownBlock) v138 y137) := ⟨h1_⟩
            have n2_ : Aside0 (w22.heap[gb129]? = some (.cells #[.int .i64 a0_0, .int .i64 a0_1, .slice A0_2 l0_2.length c0_2, .int .i64 a0_3] 24 (0, 0))) := ⟨h2_⟩
            have n3_ : Aside0 (Below w.heap.size w w22) := ⟨h3_⟩
            clear BK129
            clear HB
            clear h0_ h1_ h2_ h3_
            have HO136 := n0_
            have HO139 := n1_
            have BK129 := n2_
            have HB := n3_
            clear n0_ n1_ n2_ n3_
            have hHeld : w22.cell? ⟨gb129, 0, none⟩ = some (.int .i64 a0_0) ∧ w22.cell? ⟨gb129, 1, none⟩ = some (.int .i64 a0_1) ∧ w22.cell? ⟨gb129, 2, none⟩ = some (.slice A0_2 l0_2.length c0_2) ∧ w22.cell? ⟨gb129, 3, none⟩ = some (.int .i64 a0_3) := hS_
            refine norm_ (a' := ?_) ?_ ?_
            rotate_left
            · simp only [putAll, Act.put, List.setIfInBounds_toArray, List.set_cons_zero, List.set_cons_succ]
              rfl
            refine pure_ (i := 7) (N := some 10) (v := ?_) (a' := ?_) #[true, true, true, true, true, true, true, true] rfl rfl (any_of HT_.out (by kernel_rfl)) (fun _ _ _ h => h) (Or.inl ⟨by rfl, ?_⟩) ?_ ?_
            rotate_left
            · intro w'
              go_simp
              with_reducible rfl
            rotate_left
            · simp only [Act.put, List.setIfInBounds_toArray, List.set_cons_zero, List.set_cons_succ, i64_w, i32_w]
              rfl
            refine done_ (done_of HT_.out (by kernel_rfl)) ?_
            try go_wp2
            go_loopg [42] k (fun kq v42 w' => ∃ (x9_1 : List Int) (x10_1 : List Int) (x42_1 : Int), v42 = .int .i64 x42_1 ∧ Aside0 (tree_Keeps.l0 kq l1 x9_1 x10_1 t132 x42_1 a0_0 a0_1 l0_2 a0_3 = some (r1, r2)) ∧ Aside0 (kq ≤ k) ∧ Aside0 (Kd.R (Kd.int .u8) 5 w' w.heap.size (fun k_ => some k_ ≠ (v138 : Value).ownBlock) v135 x9_1) ∧ Aside0 (Kd.R (Kd.int .u8) 5 w' w.heap.size (fun k_ => some k_ ≠ (v135 : Value).ownBlock) v138 x10_1) ∧ Aside0 (w'.heap[gb129]? = some (.cells #[.int .i64 a0_0, .int .i64 a0_1, (.slice A0_2 l0_2.length c0_2), .int .i64 a0_3] 24 (0, 0))) ∧ Aside0 (Below w.heap.size w w'))
            case atStart => exact ⟨(y134), (y137), (0), (by first | rfl | (simp; done) | (simp [*]; done) | (simp [wrap64]; done)), H', ⟨Nat.le_refl _⟩, ⟨by (with_reducible repeat (first | apply Kd.R_alloc | apply Kd.R_drewN | apply Kd.R_drew)); exact HO136.out⟩, ⟨by (with_reducible repeat (first | apply Kd.R_alloc | apply Kd.R_drewN | apply Kd.R_drew)); exact HO139.out⟩, ⟨by (with_reducible repeat (first | refine blk_drewN ?_ _ | refine blk_drew ?_ | refine blk_alloc ?_ _)); exact BK129.out⟩, ⟨by repeat (first | (with_reducible first | exact HB.out | apply below_alloc | apply pw_below_drewN | apply below_drew1 | refine below_set ?_ GE129.out) | exact HB.out)⟩⟩
            case round =>
              clear H'
              try clear c1
              try clear c2
              try clear p2
              try clear c4
              try clear c4b0
              try clear c4b1
              try clear c6
              try clear c7
              try clear c8
              try clear c9
              try clear c9b0
              try clear c9b1
              try clear c10
              try clear c10b0
              try clear c10b1
              try clear c22
              try clear hcz12_0
              try clear hcz12_1
              try clear hcz12_2
              try clear hcz12_3
              try clear hcz14_0
              try clear hcz14_1
              try clear hcz14_2
              try clear hcz14_3
              try clear hcz16_0
              try clear hcz16_1
              try clear hcz16_2
              try clear hcz16_3
              try clear hfz12_0
              try clear hfz12_1
              try clear hfz12_2
              try clear hfz12_3
              try clear hfz14_0
              try clear hfz14_1
              try clear hfz14_2
              try clear hfz14_3
              try clear hfz16_0
              try clear hfz16_1
              try clear hfz16_2
              try clear hfz16_3
              obtain ⟨x9_1, x10_1, x42_1, rfl, HA, HK1, HO_9, HO_10, BK129, HB⟩ := hrel
              cases gk with
              | zero => exact absurd HA.out (by simp [tree_Keeps.l0])
              | succ k1 =>
                have H := HA.out
                clear HA
                simp only [tree_Keeps.l0] at H
                by_cases c23 : x42_1 < t132
                · rw [if_pos c23] at H
                  have c23b0 : decide (x42_1 < t132) = true := decide_eq_true c23
                  clear c23
                  have H' := Aside0.mk H
                  clear H
                  obtain ⟨Ao24, co24, eo24⟩ := Kd.R_slice HO_9.out
                  subst eo24
                  go_wp2
                  go_loopg [11, 47] k1 (fun kq v11 v47 w' => ∃ (x9_2 : List Int) (x11_2 : Int) (x47_2 : Int), v11 = .int .i64 x11_2 ∧ v47 = .int .i64 x47_2 ∧ Aside0 (tree_Keeps.l1 kq l1 x9_2 x10_1 x11_2 t132 x42_1 (x9_1.length : Int) x47_2 a0_0 a0_1 l0_2 a0_3 = some (r1, r2)) ∧ Aside0 (kq ≤ k1) ∧ Aside0 (Kd.R (Kd.int .u8) 5 w' w.heap.size (fun k_ => some k_ ≠ (v138 : Value).ownBlock) (.slice Ao24 x9_1.length co24) x9_2) ∧ Aside0 (Kd.R (Kd.int .u8) 5 w' w.heap.size (fun k_ => some k_ ≠ ((.slice Ao24 x9_1.length co24) : Value).ownBlock) v138 x10_1) ∧ Aside0 (w'.heap[gb129]? = some (.cells #[.int .i64 a0_0, .int .i64 a0_1, (.slice A0_2 l0_2.length c0_2), .int .i64 a0_3] 24 (0, 0))) ∧ Aside0 (Below w.heap.size w w'))
                  case atStart => exact ⟨(x9_1), (x42_1), (0), (by first | rfl | (simp; done) | (simp [*]; done) | (simp [wrap64]; done)), (by first | rfl | (simp; done) | (simp [*]; done) | (simp [wrap64]; done)), H', ⟨Nat.le_refl _⟩, ⟨by (with_reducible repeat (first | apply Kd.R_alloc | apply Kd.R_drewN | apply Kd.R_drew)); exact HO_9.out⟩, ⟨by (with_reducible repeat (first | apply Kd.R_alloc | apply Kd.R_drewN | apply Kd.R_drew)); exact HO_10.out⟩, ⟨by (with_reducible repeat (first | refine blk_drewN ?_ _ | refine blk_drew ?_ | refine blk_alloc ?_ _)); exact BK129.out⟩, ⟨by repeat (first | (with_reducible first | exact HB.out | apply below_alloc | apply pw_below_drewN | apply below_drew1 | refine below_set ?_ GE129.out) | exact HB.out)⟩⟩
                  case round =>
                    clear H'
                    try clear c1
                    try clear c2
                    try clear p2
                    try clear c4
                    try clear c4b0
                    try clear c4b1
                    try clear c6
                    try clear c7
                    try clear c8
                    try clear c9
                    try clear c9b0
                    try clear c9b1
                    try clear c10
                    try clear c10b0
                    try clear c10b1
                    try clear c22
                    try clear c23
                    try clear c23b0
                    try clear hcz12_0
                    try clear hcz12_1
                    try clear hcz12_2
                    try clear hcz12_3
                    try clear hcz14_0
                    try clear hcz14_1
                    try clear hcz14_2
                    try clear hcz14_3
                    try clear hcz16_0
                    try clear hcz16_1
                    try clear hcz16_2
                    try clear hcz16_3
                    try clear hfz12_0
                    try clear hfz12_1
                    try clear hfz12_2
                    try clear hfz12_3
                    try clear hfz14_0
                    try clear hfz14_1
                    try clear hfz14_2
                    try clear hfz14_3
                    try clear hfz16_0
                    try clear hfz16_1
                    try clear hfz16_2
                    try clear hfz16_3
                    try clear p2
                    obtain ⟨x9_2, x11_2, x47_2, rfl, rfl, HA, HK2, HO_9, HO_10, BK129, HB⟩ := hrel
                    have hl9_2 := (Kd.R_reads' HO_9.out).1
                    rw [hl9_2] at HO_9
                    (try simp only [hl9_2])
                    (try simp only [hl9_2] at BK129)
                    (try simp only [hl9_2] at HO_10)
                    cases gk with
                    | zero => exact absurd HA.out (by simp [tree_Keeps.l1])
                    | succ k2 =>
                      have H := HA.out
                      clear HA
                      simp only [tree_Keeps.l1] at H
                      by_cases c25 : x47_2 < (x9_1.length : Int)
                      · rw [if_pos c25] at H
                        have c25b0 : decide (x47_2 < (x9_1.length : Int)) = true := decide_eq_true c25
                        clear c25
                        by_cases c26 : a0_0 = 0
                        · rw [if_pos c26] at H
                          exact absurd H (by simp)
                        · rw [if_neg c26] at H
                          have c26b0 : (a0_0 == 0) = false := beq_eq_false_iff_ne.mpr c26
                          have c26b1 : (a0_0 != 0) = true := bne_iff_ne.mpr c26
                          by_cases c27 : 0 ≤ x47_2
                          · rw [if_pos c27] at H
                            have c27b0 : decide (0 ≤ x47_2) = true := decide_eq_true c27
                            clear c27
                            by_cases c28 : x47_2 < (x9_2.length : Int)
                            · rw [if_pos c28] at H
                              have c28b0 : decide (x47_2 < (x9_2.length : Int)) = true := decide_eq_true c28
                              clear c28
                              obtain ⟨y140, hy140⟩ : ∃ y_ : List Int, y_ = (x9_2.set (x47_2 : Int).toNat ((Int.tmod x11_2 a0_0) % 256)) := ⟨_, rfl⟩
                              replace H : (tree_Keeps.l1 k2 l1 y140 x10_1 (wrap64 (Int.tdiv x11_2 a0_0)) t132 x42_1 (x9_1.length : Int) (wrap64 (x47_2 + 1)) a0_0 a0_1 l0_2 a0_3) = some (r1, r2) := by first | (rw [hy140]; with_reducible exact H) | (have H2_ := (Option.bind_some _ _).symm.trans H; rw [hy140]; with_reducible exact H2_) | (have H2_ := (Option.bind_some _ _).symm.trans H; with_reducible exact H2_) | with_reducible exact H | (rw [hy140]; exact H) | exact H
                              have Ny140 := Aside0.mk hy140
                              clear hy140
                              have H' := Aside0.mk H
                              clear H
                              have hcz30_0 : wr.cell? ⟨gb129, 0, none⟩ = some (.int .i64 a0_0) := (blk_cell BK129.out 0).trans rfl
                              have hcz30_1 : wr.cell? ⟨gb129, 1, none⟩ = some (.int .i64 a0_1) := (blk_cell BK129.out 1).trans rfl
                              have hcz30_2 : wr.cell? ⟨gb129, 2, none⟩ = some (.slice A0_2 l0_2.length c0_2) := (blk_cell BK129.out 2).trans rfl
                              have hcz30_3 : wr.cell? ⟨gb129, 3, none⟩ = some (.int .i64 a0_3) := (blk_cell BK129.out 3).trans rfl
                              have hfz30_0 := blk_frozen BK129.out 0
                              have hfz30_1 := blk_frozen BK129.out 1
                              have hfz30_2 := blk_frozen BK129.out 2
                              have hfz30_3 := blk_frozen BK129.out 3
                              have p29 : 0 ≤ (x47_2 : Int) := of_decide_eq_true (by first | (with_reducible assumption) | assumption)
                              have q29 : (x47_2 : Int) < ((x9_2.length : Int) : Int) := of_decide_eq_true (by first | (with_reducible assumption) | assumption)
                              obtain ⟨go29, co29, eo29, gb29, gl29, cl29, HG29⟩ := Kd.R_form HO_9.out (by omega)
                              (first | cases eo29 | (injection eo29 with ea_ en_ ec_; (first | subst ea_ | (injection ea_ with ea_; subst ea_)); subst ec_; clear en_))
                              have GB29 := Aside0.mk gb29
                              have GG29 := Aside0.mk HG29
                              clear gb29 gl29 HG29
                              obtain ⟨hx29_0, hf29_0⟩ := Kd.R_celln 0 HO_9.out (x47_2 : Int) p29 q29
                              replace p29 := eq_true p29
                              replace q29 := eq_true q29
                              have HP31 := Kd.R_putg HO_9.out (x47_2 : Int) ((Int.tmod x11_2 a0_0) % 256)
                              go_wp2_with (first | ((with_reducible refine gate_store (t := 5) (p := 57) rfl ?_); refine store_event (t := 5) (p := 57) (v := ?vo_w32) (w1 := (wr.setCell ⟨go29, (x47_2 : Int).toNat, none⟩ (.int .u8 ((Int.tmod x11_2 a0_0) % 256)))) ?hg ?ho ?hn ?hr ?_; (case ho => rfl); (case hg => rfl); (case hn => rfl); (case hr => first | (go_simp; done) | (go_simp; rfl)); intro w32 hw; have hg : wr.grownBy w32 (some go29) := (by rw [hw]; exact HP31.2); have hp_ : Kd.R (Kd.int .u8) 5 w32 w.heap.size (fun k_ => some k_ ≠ (v138 : Value).ownBlock) (.slice (some ⟨go29, 0, none⟩) x9_2.length co24) y140 := (by rw [hw, Ny140.out]; exact HP31.1); clear HP31; have n0_ := Aside0.mk (hp_); have n1_ := Aside0.mk (Kd.R_after (v := (.slice (some ⟨go29, 0, none⟩) x9_2.length co24)) (v1 := (.slice (some ⟨go29, 0, none⟩) x9_2.length co24)) (ok := (fun _ => True)) (by (with_reducible repeat (first | apply Kd.R_alloc | apply Kd.R_drewN | apply Kd.R_drew)); exact Kd.R_mono HO_10.out (fun _ hk => ⟨trivial, hk⟩)) hg (.inl rfl)); have n2_ := Aside0.mk (blk_grown (g := gb129) (o := .cells #[.int .i64 a0_0, .int .i64 a0_1, .slice A0_2 l0_2.length c0_2, .int .i64 a0_3] 24 (0, 0)) (by (with_reducible repeat (first | refine blk_drewN ?_ _ | refine blk_drew ?_ | refine blk_alloc ?_ _)); exact BK129.out) hg (Kd.R_ne HO_9.out BK129.out (by decide))); have n3_ := Aside0.mk ((by rw [hw]; exact below_set (HB.out) GB29.out : Below w.heap.size w w32)); clear HO_9; clear HO_10; clear BK129; clear HB; have HO_9 := n0_; have HO_10 := n1_; have BK129 := n2_; have HB := n3_; clear n0_ n1_ n2_ n3_; clear hg hw hp_; have hcz33_0 : w32.cell? ⟨gb129, 0, none⟩ = some (.int .i64 a0_0) := (blk_cell BK129.out 0).trans rfl; have hcz33_1 : w32.cell? ⟨gb129, 1, none⟩ = some (.int .i64 a0_1) := (blk_cell BK129.out 1).trans rfl; have hcz33_2 : w32.cell? ⟨gb129, 2, none⟩ = some (.slice A0_2 l0_2.length c0_2) := (blk_cell BK129.out 2).trans rfl; have hcz33_3 : w32.cell? ⟨gb129, 3, none⟩ = some (.int .i64 a0_3) := (blk_cell BK129.out 3).trans rfl; have hfz33_0 := blk_frozen BK129.out 0; have hfz33_1 := blk_frozen BK129.out 1; have hfz33_2 := blk_frozen BK129.out 2; have hfz33_3 := blk_frozen BK129.out 3))
                              (try simp only [← hl9_2])
                              go_roundg k2
                              case measure => have := HK1.out; have := HK2.out; omega
                              case rel => exact ⟨(y140), (wrap64 (Int.tdiv x11_2 a0_0)), (wrap64 (x47_2 + 1)), (by first | rfl | (simp; done) | (simp [*]; done) | (simp [wrap64]; done)), (by first | rfl | (simp; done) | (simp [*]; done) | (simp [wrap64]; done)), H', ⟨by have := HK1.out; have := HK2.out; omega⟩, ⟨by (try simp only [hl9_2]); (with_reducible repeat (first | apply Kd.R_alloc | apply Kd.R_drewN | apply Kd.R_drew)); exact HO_9.out⟩, ⟨by (try simp only [hl9_2]); (with_reducible repeat (first | apply Kd.R_alloc | apply Kd.R_drewN | apply Kd.R_drew)); exact Kd.R_mono HO_10.out (fun _ hk => hk.2)⟩, ⟨by (try simp only [hl9_2]); (with_reducible repeat (first | refine blk_drewN ?_ _ | refine blk_drew ?_ | refine blk_alloc ?_ _)); exact BK129.out⟩, ⟨by repeat (first | (with_reducible first | exact HB.out | apply below_alloc | apply pw_below_drewN | apply below_drew1 | refine below_set ?_ GE129.out) | exact HB.out)⟩⟩
                            · rw [if_neg c28] at H
                              exact absurd H (by simp)
                          · rw [if_neg c27] at H
                            exact absurd H (by simp)
                      · rw [if_neg c25] at H
                        have c25b0 : decide (x47_2 < (x9_1.length : Int)) = false := decide_eq_false c25
                        clear c25
                        (try rw [hl9_2] at c25b0)
                        have H' := Aside0.mk H
                        clear H
                        go_wp2
                        go_loopg [65] k2 (fun kq v65 w' => ∃ (x10_3 : List Int) (x65_3 : Int), v65 = .int .i64 x65_3 ∧ Aside0 (tree_Keeps.l2 kq l1 x9_2 x10_3 t132 x42_1 l1 (l1.length : Int) x65_3 a0_0 a0_1 l0_2 a0_3 = some (r1, r2)) ∧ Aside0 (kq ≤ k2) ∧ Aside0 (Kd.R (Kd.int .u8) 5 w' w.heap.size (fun k_ => some k_ ≠ (v138 : Value).ownBlock) (.slice Ao24 x9_2.length co24) x9_2) ∧ Aside0 (Kd.R (Kd.int .u8) 5 w' w.heap.size (fun k_ => some k_ ≠ ((.slice Ao24 x9_2.length co24) : Value).ownBlock) v138 x10_3) ∧ Aside0 (w'.heap[gb129]? = some (.cells #[.int .i64 a0_0, .int .i64 a0_1, (.slice A0_2 l0_2.length c0_2), .int .i64 a0_3] 24 (0, 0))) ∧ Aside0 (Below w.heap.size w w'))
                        case atStart => exact ⟨(x10_1), (0), (by first | rfl | (simp; done) | (simp [*]; done) | (simp [wrap64]; done)), H', ⟨Nat.le_refl _⟩, ⟨by (try simp only [hl9_2]); (with_reducible repeat (first | apply Kd.R_alloc | apply Kd.R_drewN | apply Kd.R_drew)); exact HO_9.out⟩, ⟨by (try simp only [hl9_2]); (with_reducible repeat (first | apply Kd.R_alloc | apply Kd.R_drewN | apply Kd.R_drew)); exact HO_10.out⟩, ⟨by (try simp only [hl9_2]); (with_reducible repeat (first | refine blk_drewN ?_ _ | refine blk_drew ?_ | refine blk_alloc ?_ _)); exact BK129.out⟩, ⟨by repeat (first | (with_reducible first | exact HB.out | apply below_alloc | apply pw_below_drewN | apply below_drew1 | refine below_set ?_ GE129.out) | exact HB.out)⟩⟩
                        case round =>
                          clear H'
                          try clear c1
                          try clear c2
                          try clear p2
                          try clear q2
                          try clear hx2
                          try clear hf2
                          try clear c4
                          try clear c4b0
                          try clear c4b1
                          try clear c6
                          try clear p6
                          try clear c7
                          try clear c8
                          try clear c9
                          try clear c9b0
                          try clear c9b1
                          try clear c10
                          try clear c10b0
                          try clear c10b1
                          try clear c22
                          try clear c23
                          try clear c23b0
                          try clear c25
                          try clear c25b0
                          try clear c26
                          try clear c26b0
                          try clear c26b1
                          try clear c27
                          try clear c27b0
                          try clear c28
                          try clear c28b0
                          try clear p29
                          try clear q29
                          try clear hx29
                          try clear hf29
                          try clear hcz12_0
                          try clear hcz12_1
                          try clear hcz12_2
                          try clear hcz12_3
                          try clear hcz14_0
                          try clear hcz14_1
                          try clear hcz14_2
                          try clear hcz14_3
                          try clear hcz16_0
                          try clear hcz16_1
                          try clear hcz16_2
                          try clear hcz16_3
                          try clear hcz30_0
                          try clear hcz30_1
                          try clear hcz30_2
                          try clear hcz30_3
                          try clear hcz33_0
                          try clear hcz33_1
                          try clear hcz33_2
                          try clear hcz33_3
                          try clear hfz12_0
                          try clear hfz12_1
                          try clear hfz12_2
                          try clear hfz12_3
                          try clear hfz14_0
                          try clear hfz14_1
                          try clear hfz14_2
                          try clear hfz14_3
                          try clear hfz16_0
                          try clear hfz16_1
                          try clear hfz16_2
                          try clear hfz16_3
                          try clear hfz30_0
                          try clear hfz30_1
                          try clear hfz30_2
                          try clear hfz30_3
                          try clear hfz33_0
                          try clear hfz33_1
                          try clear hfz33_2
                          try clear hfz33_3
                          try clear hx29_0
                          try clear p2
                          try clear p29
                          try clear q29
                          obtain ⟨x10_3, x65_3, rfl, HA, HK3, HO_9, HO_10, BK129, HB⟩ := hrel
                          cases gk with
                          | zero => exact absurd HA.out (by simp [tree_Keeps.l2])
                          | succ k3 =>
                            have H := HA.out
                            clear HA
                            simp only [tree_Keeps.l2] at H
                            by_cases c34 : x65_3 < (l1.length : Int)
                            · rw [if_pos c34] at H
                              have c34b0 : decide (x65_3 < (l1.length : Int)) = true := decide_eq_true c34
                              clear c34
                              by_cases c35 : 0 ≤ x65_3
                              · rw [if_pos c35] at H
                                have c35b0 : decide (0 ≤ x65_3) = true := decide_eq_true c35
                                clear c35
                                by_cases c36 : x65_3 < (l1.length : Int)
                                · rw [if_pos c36] at H
                                  have c36b0 : decide (x65_3 < (l1.length : Int)) = true := decide_eq_true c36
                                  clear c36
                                  by_cases c37 : 0 ≤ (rd l1 x65_3)
                                  · rw [if_pos c37] at H
                                    have c37b0 : decide (0 ≤ (rd l1 x65_3)) = true := decide_eq_true c37
                                    clear c37
                                    by_cases c38 : (rd l1 x65_3) < (x9_2.length : Int)
                                    · rw [if_pos c38] at H
                                      have c38b0 : decide ((rd l1 x65_3) < (x9_2.length : Int)) = true := decide_eq_true c38
                                      clear c38
                                      by_cases c39 : x65_3 < (x10_3.length : Int)
                                      · rw [if_pos c39] at H
                                        have c39b0 : decide (x65_3 < (x10_3.length : Int)) = true := decide_eq_true c39
                                        clear c39
                                        obtain ⟨y143, hy143⟩ : ∃ y_ : List Int, y_ = (x10_3.set (x65_3 : Int).toNat (rd x9_2 (rd l1 x65_3))) := ⟨_, rfl⟩
                                        replace H : (tree_Keeps.l2 k3 l1 x9_2 y143 t132 x42_1 l1 (l1.length : Int) (wrap64 (x65_3 + 1)) a0_0 a0_1 l0_2 a0_3) = some (r1, r2) := by first | (rw [hy143]; with_reducible exact H) | (have H2_ := (Option.bind_some _ _).symm.trans H; rw [hy143]; with_reducible exact H2_) | (have H2_ := (Option.bind_some _ _).symm.trans H; with_reducible exact H2_) | with_reducible exact H | (rw [hy143]; exact H) | exact H
                                        have Ny143 := Aside0.mk hy143
                                        clear hy143
                                        have H' := Aside0.mk H
                                        clear H
                                        have p141 : 0 ≤ (x65_3 : Int) := of_decide_eq_true (by first | (with_reducible assumption) | assumption)
                                        have q141 : x65_3 < (l1.length : Int) := of_decide_eq_true (by first | (with_reducible assumption) | assumption)
                                        obtain ⟨ad141, e141, hx141_0⟩ := Kd.at_int HR1.out x65_3 p141 q141
                                        cases e141
                                        replace hx141_0 := (HB.out.cell (World.block_lt_of_cell? w _ hx141_0)).trans hx141_0
                                        replace p141 := eq_true p141
                                        replace q141 := eq_true q141
                                        have p142 : 0 ≤ ((rd l1 x65_3) : Int) := of_decide_eq_true (by first | (with_reducible assumption) | assumption)
                                        have q142 : (rd l1 x65_3) < (x9_2.length : Int) := of_decide_eq_true (by first | (with_reducible assumption) | assumption)
                                        obtain ⟨ad142, e142, hx142_0⟩ := Kd.at_int (Kd.R_reads' HO_9.out).2.2 (rd l1 x65_3) p142 q142
                                        cases e142
                                        replace p142 := eq_true p142
                                        replace q142 := eq_true q142
                                        have p40 : 0 ≤ (x65_3 : Int) := of_decide_eq_true (by first | (with_reducible assumption) | assumption)
                                        have q40 : (x65_3 : Int) < ((x10_3.length : Int) : Int) := of_decide_eq_true (by first | (with_reducible assumption) | assumption)
                                        obtain ⟨go40, co40, eo40, gb40, gl40, cl40, HG40⟩ := Kd.R_form HO_10.out (by omega)
                                        (first | cases eo40 | (injection eo40 with ea_ en_ ec_; (first | subst ea_ | (injection ea_ with ea_; subst ea_)); subst ec_; clear en_))
                                        have GB40 := Aside0.mk gb40
                                        have GG40 := Aside0.mk HG40
                                        clear gb40 gl40 HG40
                                        obtain ⟨hx40_0, hf40_0⟩ := Kd.R_celln 0 HO_10.out (x65_3 : Int) p40 q40
                                        replace p40 := eq_true p40
                                        replace q40 := eq_true q40
                                        have HP41 := Kd.R_putg HO_10.out (x65_3 : Int) (rd x9_2 (rd l1 x65_3))
                                        go_wp2_with (first | ((with_reducible refine gate_store (t := 5) (p := 76) rfl ?_); refine store_event (t := 5) (p := 76) (v := ?vo_w42) (w1 := (wr.setCell ⟨go40, (x65_3 : Int).toNat, none⟩ (.int .u8 (rd x9_2 (rd l1 x65_3))))) ?hg ?ho ?hn ?hr ?_; (case ho => rfl); (case hg => rfl); (case hn => rfl); (case hr => first | (go_simp; done) | (go_simp; rfl)); intro w42 hw; have hg : wr.grownBy w42 (some go40) := (by rw [hw]; exact HP41.2); have hp_ : Kd.R (Kd.int .u8) 5 w42 w.heap.size (fun k_ => some k_ ≠ (.slice (some ad142) x9_2.length co24 : Value).ownBlock) (.slice (some ⟨go40, 0, none⟩) x10_3.length co40) y143 := (by rw [hw, Ny143.out]; exact HP41.1); clear HP41; have n0_ := Aside0.mk (Kd.R_after (v := (.slice (some ⟨go40, 0, none⟩) x10_3.length co40)) (v1 := (.slice (some ⟨go40, 0, none⟩) x10_3.length co40)) (ok := (fun _ => True)) (by (with_reducible repeat (first | apply Kd.R_alloc | apply Kd.R_drewN | apply Kd.R_drew)); exact Kd.R_mono HO_9.out (fun _ hk => ⟨trivial, hk⟩)) hg (.inl rfl)); have n1_ := Aside0.mk (hp_); have n2_ := Aside0.mk (blk_grown (g := gb129) (o := .cells #[.int .i64 a0_0, .int .i64 a0_1, .slice A0_2 l0_2.length c0_2, .int .i64 a0_3] 24 (0, 0)) (by (with_reducible repeat (first | refine blk_drewN ?_ _ | refine blk_drew ?_ | refine blk_alloc ?_ _)); exact BK129.out) hg (Kd.R_ne HO_10.out BK129.out (by decide))); have n3_ := Aside0.mk ((by rw [hw]; exact below_set (HB.out) GB40.out : Below w.heap.size w w42)); clear HO_9; clear HO_10; clear BK129; clear HB; have HO_9 := n0_; have HO_10 := n1_; have BK129 := n2_; have HB := n3_; clear n0_ n1_ n2_ n3_; clear hg hw hp_))
                                        go_roundg k3
                                        case measure => have := HK1.out; have := HK2.out; have := HK3.out; omega
                                        case rel => exact ⟨(y143), (wrap64 (x65_3 + 1)), (by first | rfl | (simp; done) | (simp [*]; done) | (simp [wrap64]; done)), H', ⟨by have := HK1.out; have := HK2.out; have := HK3.out; omega⟩, ⟨by (try simp only [hl9_2]); (with_reducible repeat (first | apply Kd.R_alloc | apply Kd.R_drewN | apply Kd.R_drew)); exact Kd.R_mono HO_9.out (fun _ hk => hk.2)⟩, ⟨by (try simp only [hl9_2]); (with_reducible repeat (first | apply Kd.R_alloc | apply Kd.R_drewN | apply Kd.R_drew)); exact HO_10.out⟩, ⟨by (try simp only [hl9_2]); (with_reducible repeat (first | refine blk_drewN ?_ _ | refine blk_drew ?_ | refine blk_alloc ?_ _)); exact BK129.out⟩, ⟨by repeat (first | (with_reducible first | exact HB.out | apply below_alloc | apply pw_below_drewN | apply below_drew1 | refine below_set ?_ GE129.out) | exact HB.out)⟩⟩
                                      · rw [if_neg c39] at H
                                        exact absurd H (by simp)
                                    · rw [if_neg c38] at H
                                      exact absurd H (by simp)
                                  · rw [if_neg c37] at H
                                    exact absurd H (by simp)
                                · rw [if_neg c36] at H
                                  exact absurd H (by simp)
                              · rw [if_neg c35] at H
                                exact absurd H (by simp)
                            · rw [if_neg c34] at H
                              have c34b0 : decide (x65_3 < (l1.length : Int)) = false := decide_eq_false c34
                              clear c34
                              replace H := Option.bind_eq_some_iff.mp H
                              obtain ⟨t144, A430, H⟩ := H
                              replace H : ((tree_at.f k3 a0_0 a0_1 l0_2 a0_3 x10_3).bind fun t145 => (if t144 = t145 then (tree_Keeps.l0 k3 l1 x9_2 x10_3 t132 (wrap64 (x42_1 + 1)) a0_0 a0_1 l0_2 a0_3) else (some (false, 0)))) = some (r1, r2) := H
                              have A43 := Aside0.mk A430
                              clear A430
                              replace H := Option.bind_eq_some_iff.mp H
                              obtain ⟨t145, A440, H⟩ := H
                              replace H : (if t144 = t145 then (tree_Keeps.l0 k3 l1 x9_2 x10_3 t132 (wrap64 (x42_1 + 1)) a0_0 a0_1 l0_2 a0_3) else (some (false, 0))) = some (r1, r2) := H
                              have A44 := Aside0.mk A440
                              clear A440
                              by_cases c45 : t144 = t145
                              · rw [if_pos c45] at H
                                have c45b0 : (t144 == t145) = true := beq_iff_eq.mpr c45
                                have c45b1 : (t144 != t145) = false := bne_eq_false_iff_eq.mpr c45
                                clear c45
                                have H' := Aside0.mk H
                                clear H
                                try go_wp2
                                have n0_ := Aside0.mk (Kd.R_drew HO_9.out)
                                have n1_ := Aside0.mk (Kd.R_drew HO_10.out)
                                have n2_ := Aside0.mk (blk_drew BK129.out)
                                have n3_ := Aside0.mk (below_drew1 HB.out)
                                clear HO_9
                                clear HO_10
                                clear BK129
                                clear HB
                                have HO_9 := n0_
                                have HO_10 := n1_
                                have BK129 := n2_
                                have HB := n3_
                                clear n0_ n1_ n2_ n3_
                                refine start_ (n := 7) (S := fun w' => w'.cell? ⟨gb129, 0, none⟩ = some (.int .i64 a0_0) ∧ w'.cell? ⟨gb129, 1, none⟩ = some (.int .i64 a0_1) ∧ w'.cell? ⟨gb129, 2, none⟩ = some (.slice A0_2 l0_2.length c0_2) ∧ w'.cell? ⟨gb129, 3, none⟩ = some (.int .i64 a0_3)) (ds := []) #[false, false, false, false, false, false, false] (by kernel_rfl) rfl rfl ⟨(blk_cell BK129.out 0).trans rfl, (blk_cell BK129.out 1).trans rfl, (blk_cell BK129.out 2).trans rfl, (blk_cell BK129.out 3).trans rfl⟩ (fun hHeld => ?_)
                                generalize wr.drew = w46 at HO_9 HO_10 BK129 HB hHeld ⊢
                                refine pure_ (i := 1) (N := some 79) (v := ?_) (a' := ?_) #[false, true, false, false, false, false, false] rfl rfl (by kernel_rfl) (fun _ _ _ h => h) (Or.inl ⟨by rfl, ?_⟩) ?_ ?_
                                rotate_left
                                · intro w'
                                  go_simp
                                  with_reducible rfl
                                rotate_left
                                · simp only [Act.put, List.setIfInBounds_toArray, List.set_cons_zero, List.set_cons_succ, i64_w, i32_w]
                                  rfl
                                refine pure_ (i := 4) (N := some 82) (v := ?_) (a' := ?_) #[false, true, false, false, true, false, false] rfl rfl (by kernel_rfl) (fun _ _ _ h => h) (Or.inl ⟨by rfl, ?_⟩) ?_ ?_
                                rotate_left
                                · intro w'
                                  go_simp
                                  with_reducible rfl
                                rotate_left
                                · simp only [Act.put, List.setIfInBounds_toArray, List.set_cons_zero, List.set_cons_succ, i64_w, i32_w]
                                  rfl
                                refine take_ (i := 0) (N := some 78) (v := ?_) (a' := ?_) #[true, true, false, false, true, false, false] rfl rfl (by kernel_rfl) (fun _ _ _ h => h) (Or.inl ⟨by rfl, ?_⟩) hHeld ?_ ?_
                                rotate_left
                                · rintro w' ⟨s0, s1, s2, s3⟩
                                  go_simp
                                  with_reducible rfl
                                rotate_left
                                · simp only [Act.put, List.setIfInBounds_toArray, List.set_cons_zero, List.set_cons_succ, i64_w, i32_w]
                                  rfl
                                refine take_ (i := 3) (N := some 81) (v := ?_) (a' := ?_) #[true, true, false, true, true, false, false] rfl rfl (by kernel_rfl) (fun _ _ _ h => h) (Or.inl ⟨by rfl, ?_⟩) hHeld ?_ ?_
                                rotate_left
                                · rintro w' ⟨s0, s1, s2, s3⟩
                                  go_simp
                                  with_reducible rfl
                                rotate_left
                                · simp only [Act.put, List.setIfInBounds_toArray, List.set_cons_zero, List.set_cons_succ, i64_w, i32_w]
                                  rfl
                                refine one_ (i := 2) (N := some 80) #[true, true, true, true, true, false, false] rfl rfl (by kernel_rfl) (by decide) (fun K hK => ?_)
                                refine goes_ Tryd.func60 (by kernel_rfl) rfl #[.agg #[.int .i64 a0_0, .int .i64 a0_1, .slice A0_2 l0_2.length c0_2, .int .i64 a0_3], .slice Ao24 x9_2.length co24] (by rfl) rfl rfl (by (try simp only [List.map_toArray, List.map_cons, List.map_nil]); first | done | rfl | (simp only [List.length_drop, List.length_take]; rfl)) ?_
                                with_reducible refine (tree_at.calls k3 a0_0 a0_1 _ _ l0_2 a0_3 _ _ x9_2 t144 _ ?side1 ?side2 ?side3 ?side4 A43.out).mono ?_
                                (case side1 => repeat (first | exact (Kd.C_below HR0_2.out HB.out) | (with_reducible refine Kd.C_alloc ?_ _) | (with_reducible refine Kd.C_drewN ?_ _) | (with_reducible refine Kd.C_drew ?_)))
                                (case side2 => exact HC0_2.out)
                                (case side3 => repeat (first | exact (Kd.R_reads' HO_9.out).2.2 | (with_reducible refine Kd.C_alloc ?_ _) | (with_reducible refine Kd.C_drewN ?_ _) | (with_reducible refine Kd.C_drew ?_)))
                                (case side4 => exact (Kd.R_reads' HO_9.out).2.1)
                                rintro e w47 ⟨rfl, hb⟩
                                refine ⟨_, rfl, ?_⟩
                                have n0_ := Aside0.mk (Kd.R_below (by (with_reducible repeat (first | apply Kd.R_alloc | apply Kd.R_drewN | apply Kd.R_drew)); exact HO_9.out) hb)
                                have n1_ := Aside0.mk (Kd.R_below (by (with_reducible repeat (first | apply Kd.R_alloc | apply Kd.R_drewN | apply Kd.R_drew)); exact HO_10.out) hb)
                                have n2_ := Aside0.mk (blk_below (g := gb129) (o := .cells #[.int .i64 a0_0, .int .i64 a0_1, .slice A0_2 l0_2.length c0_2, .int .i64 a0_3] 24 (0, 0)) (by (with_reducible repeat (first | refine blk_drewN ?_ _ | refine blk_drew ?_ | refine blk_alloc ?_ _)); exact BK129.out) hb)
                                have n3_ := Aside0.mk (below_step (by repeat (first | (with_reducible first | exact HB.out | apply below_alloc | apply pw_below_drewN | apply below_drew1 | refine below_set ?_ GE129.out) | exact HB.out)) hb)
                                clear HO_9
                                clear HO_10
                                clear BK129
                                clear HB
                                have HO_9 := n0_
                                have HO_10 := n1_
                                have BK129 := n2_
                                have HB := n3_
                                clear n0_ n1_ n2_ n3_
                                (try clear hb)
                                (try clear hb2)
                                (try clear hk)
                                (try clear hi)
                                obtain ⟨Ao48, co48, eo48⟩ := Kd.R_slice HO_10.out
                                (first | subst eo48 | (injection eo48 with f1_ f2_ f3_; have f4_ := f1_.symm; have f5_ := f3_.symm; clear f1_ f2_ f3_; subst f4_; subst f5_))
                                refine hK.out _ _ ⟨(blk_cell BK129.out 0).trans rfl, (blk_cell BK129.out 1).trans rfl, (blk_cell BK129.out 2).trans rfl, (blk_cell BK129.out 3).trans rfl⟩ (fun hHeld => ?_)
                                clear hK K
                                refine norm_ (a' := ?_) ?_ ?_
                                rotate_left
                                · show Act.put _ (some 80) _ = _
                                  simp only [Act.put, List.setIfInBounds_toArray, List.set_cons_zero, List.set_cons_succ, i64_w, i32_w]
                                  rfl
                                refine one_ (i := 5) (N := some 83) #[true, true, true, true, true, true, false] rfl rfl (by kernel_rfl) (by decide) (fun K hK => ?_)
                                refine goes_ Tryd.func60 (by kernel_rfl) rfl #[.agg #[.int .i64 a0_0, .int .i64 a0_1, .slice A0_2 l0_2.length c0_2, .int .i64 a0_3], .slice Ao48 x10_3.length co48] (by rfl) rfl rfl (by (try simp only [List.map_toArray, List.map_cons, List.map_nil]); first | done | rfl | (simp only [List.length_drop, List.length_take]; rfl)) ?_
                                with_reducible refine (tree_at.calls k3 a0_0 a0_1 _ _ l0_2 a0_3 _ _ x10_3 t145 _ ?side1 ?side2 ?side3 ?side4 A44.out).mono ?_
                                (case side1 => repeat (first | exact (Kd.C_below HR0_2.out HB.out) | (with_reducible refine Kd.C_alloc ?_ _) | (with_reducible refine Kd.C_drewN ?_ _) | (with_reducible refine Kd.C_drew ?_)))
                                (case side2 => exact HC0_2.out)
                                (case side3 => repeat (first | exact (Kd.R_reads' HO_10.out).2.2 | (with_reducible refine Kd.C_alloc ?_ _) | (with_reducible refine Kd.C_drewN ?_ _) | (with_reducible refine Kd.C_drew ?_)))
                                (case side4 => exact (Kd.R_reads' HO_10.out).2.1)
                                rintro e w49 ⟨rfl, hb⟩
                                refine ⟨_, rfl, ?_⟩
                                have n0_ := Aside0.mk (Kd.R_below (by (with_reducible repeat (first | apply Kd.R_alloc | apply Kd.R_drewN | apply Kd.R_drew)); exact HO_9.out) hb)
                                have n1_ := Aside0.mk (Kd.R_below (by (with_reducible repeat (first | apply Kd.R_alloc | apply Kd.R_drewN | apply Kd.R_drew)); exact HO_10.out) hb)
                                have n2_ := Aside0.mk (blk_below (g := gb129) (o := .cells #[.int .i64 a0_0, .int .i64 a0_1, .slice A0_2 l0_2.length c0_2, .int .i64 a0_3] 24 (0, 0)) (by (with_reducible repeat (first | refine blk_drewN ?_ _ | refine blk_drew ?_ | refine blk_alloc ?_ _)); exact BK129.out) hb)
                                have n3_ := Aside0.mk (below_step (by repeat (first | (with_reducible first | exact HB.out | apply below_alloc | apply pw_below_drewN | apply below_drew1 | refine below_set ?_ GE129.out) | exact HB.out)) hb)
                                clear HO_9
                                clear HO_10
                                clear BK129
                                clear HB
                                have HO_9 := n0_
                                have HO_10 := n1_
                                have BK129 := n2_
                                have HB := n3_
                                clear n0_ n1_ n2_ n3_
                                (try clear hb)
                                (try clear hb2)
                                (try clear hk)
                                (try clear hi)
                                refine hK.out _ _ ⟨(blk_cell BK129.out 0).trans rfl, (blk_cell BK129.out 1).trans rfl, (blk_cell BK129.out 2).trans rfl, (blk_cell BK129.out 3).trans rfl⟩ (fun hHeld => ?_)
                                clear hK K
                                refine norm_ (a' := ?_) ?_ ?_
                                rotate_left
                                · show Act.put _ (some 83) _ = _
                                  simp only [Act.put, List.setIfInBounds_toArray, List.set_cons_zero, List.set_cons_succ, i64_w, i32_w]
                                  rfl
                                refine pure_ (i := 6) (N := some 84) (v := ?_) (a' := ?_) #[true, true, true, true, true, true, true] rfl rfl (by kernel_rfl) (fun _ _ _ h => h) (Or.inl ⟨by rfl, ?_⟩) ?_ ?_
                                rotate_left
                                · intro w'
                                  go_simp
                                  with_reducible rfl
                                rotate_left
                                · simp only [Act.put, List.setIfInBounds_toArray, List.set_cons_zero, List.set_cons_succ, i64_w, i32_w]
                                  rfl
                                refine done_ (by kernel_rfl) ?_
                                try go_wp2
                                (try simp only [← hl9_2])
                                go_roundg k3
                                case measure => have := HK1.out; have := HK2.out; have := HK3.out; omega
                                case rel => exact ⟨(x9_2), (x10_3), (wrap64 (x42_1 + 1)), (by first | rfl | (simp; done) | (simp [*]; done) | (simp [wrap64]; done)), H', ⟨by have := HK1.out; have := HK2.out; have := HK3.out; omega⟩, ⟨by (try simp only [hl9_2]); (with_reducible repeat (first | apply Kd.R_alloc | apply Kd.R_drewN | apply Kd.R_drew)); exact HO_9.out⟩, ⟨by (try simp only [hl9_2]); (with_reducible repeat (first | apply Kd.R_alloc | apply Kd.R_drewN | apply Kd.R_drew)); exact HO_10.out⟩, ⟨by (try simp only [hl9_2]); (with_reducible repeat (first | refine blk_drewN ?_ _ | refine blk_drew ?_ | refine blk_alloc ?_ _)); exact BK129.out⟩, ⟨by repeat (first | (with_reducible first | exact HB.out | apply below_alloc | apply pw_below_drewN | apply below_drew1 | refine below_set ?_ GE129.out) | exact HB.out)⟩⟩
                              · rw [if_neg c45] at H
                                have c45b0 : (t144 == t145) = false := beq_eq_false_iff_ne.mpr c45
                                have c45b1 : (t144 != t145) = true := bne_iff_ne.mpr c45
                                simp only [Option.some.injEq, Prod.mk.injEq] at H
                                obtain ⟨rfl, rfl⟩ := H
                                try go_wp2
                                have n0_ := Aside0.mk (Kd.R_drew HO_9.out)
                                have n1_ := Aside0.mk (Kd.R_drew HO_10.out)
                                have n2_ := Aside0.mk (blk_drew BK129.out)
                                have n3_ := Aside0.mk (below_drew1 HB.out)
                                clear HO_9
                                clear HO_10
                                clear BK129
                                clear HB
                                have HO_9 := n0_
                                have HO_10 := n1_
                                have BK129 := n2_
                                have HB := n3_
                                clear n0_ n1_ n2_ n3_
                                refine start_ (n := 7) (S := fun w' => w'.cell? ⟨gb129, 0, none⟩ = some (.int .i64 a0_0) ∧ w'.cell? ⟨gb129, 1, none⟩ = some (.int .i64 a0_1) ∧ w'.cell? ⟨gb129, 2, none⟩ = some (.slice A0_2 l0_2.length c0_2) ∧ w'.cell? ⟨gb129, 3, none⟩ = some (.int .i64 a0_3)) (ds := []) #[false, false, false, false, false, false, false] (by kernel_rfl) rfl rfl ⟨(blk_cell BK129.out 0).trans rfl, (blk_cell BK129.out 1).trans rfl, (blk_cell BK129.out 2).trans rfl, (blk_cell BK129.out 3).trans rfl⟩ (fun hHeld => ?_)
                                generalize wr.drew = w50 at HO_9 HO_10 BK129 HB hHeld ⊢
                                refine pure_ (i := 1) (N := some 79) (v := ?_) (a' := ?_) #[false, true, false, false, false, false, false] rfl rfl (by kernel_rfl) (fun _ _ _ h => h) (Or.inl ⟨by rfl, ?_⟩) ?_ ?_
                                rotate_left
                                · intro w'
                                  go_simp
                                  with_reducible rfl
                                rotate_left
                                · simp only [Act.put, List.setIfInBounds_toArray, List.set_cons_zero, List.set_cons_succ, i64_w, i32_w]
                                  rfl
                                refine pure_ (i := 4) (N := some 82) (v := ?_) (a' := ?_) #[false, true, false, false, true, false, false] rfl rfl (by kernel_rfl) (fun _ _ _ h => h) (Or.inl ⟨by rfl, ?_⟩) ?_ ?_
                                rotate_left
                                · intro w'
                                  go_simp
                                  with_reducible rfl
                                rotate_left
                                · simp only [Act.put, List.setIfInBounds_toArray, List.set_cons_zero, List.set_cons_succ, i64_w, i32_w]
                                  rfl
                                refine take_ (i := 0) (N := some 78) (v := ?_) (a' := ?_) #[true, true, false, false, true, false, false] rfl rfl (by kernel_rfl) (fun _ _ _ h => h) (Or.inl ⟨by rfl, ?_⟩) hHeld ?_ ?_
                                rotate_left
                                · rintro w' ⟨s0, s1, s2, s3⟩
                                  go_simp
                                  with_reducible rfl
                                rotate_left
                                · simp only [Act.put, List.setIfInBounds_toArray, List.set_cons_zero, List.set_cons_succ, i64_w, i32_w]
                                  rfl
                                refine take_ (i := 3) (N := some 81) (v := ?_) (a' := ?_) #[true, true, false, true, true, false, false] rfl rfl (by kernel_rfl) (fun _ _ _ h => h) (Or.inl ⟨by rfl, ?_⟩) hHeld ?_ ?_
                                rotate_left
                                · rintro w' ⟨s0, s1, s2, s3⟩
                                  go_simp
                                  with_reducible rfl
                                rotate_left
                                · simp only [Act.put, List.setIfInBounds_toArray, List.set_cons_zero, List.set_cons_succ, i64_w, i32_w]
                                  rfl
                                refine one_ (i := 2) (N := some 80) #[true, true, true, true, true, false, false] rfl rfl (by kernel_rfl) (by decide) (fun K hK => ?_)
                                refine goes_ Tryd.func60 (by kernel_rfl) rfl #[.agg #[.int .i64 a0_0, .int .i64 a0_1, .slice A0_2 l0_2.length c0_2, .int .i64 a0_3], .slice Ao24 x9_2.length co24] (by rfl) rfl rfl (by (try simp only [List.map_toArray, List.map_cons, List.map_nil]); first | done | rfl | (simp only [List.length_drop, List.length_take]; rfl)) ?_
                                with_reducible refine (tree_at.calls k3 a0_0 a0_1 _ _ l0_2 a0_3 _ _ x9_2 t144 _ ?side1 ?side2 ?side3 ?side4 A43.out).mono ?_
                                (case side1 => repeat (first | exact (Kd.C_below HR0_2.out HB.out) | (with_reducible refine Kd.C_alloc ?_ _) | (with_reducible refine Kd.C_drewN ?_ _) | (with_reducible refine Kd.C_drew ?_)))
                                (case side2 => exact HC0_2.out)
                                (case side3 => repeat (first | exact (Kd.R_reads' HO_9.out).2.2 | (with_reducible refine Kd.C_alloc ?_ _) | (with_reducible refine Kd.C_drewN ?_ _) | (with_reducible refine Kd.C_drew ?_)))
                                (case side4 => exact (Kd.R_reads' HO_9.out).2.1)
                                rintro e w51 ⟨rfl, hb⟩
                                refine ⟨_, rfl, ?_⟩
                                have n0_ := Aside0.mk (Kd.R_below (by (with_reducible repeat (first | apply Kd.R_alloc | apply Kd.R_drewN | apply Kd.R_drew)); exact HO_9.out) hb)
                                have n1_ := Aside0.mk (Kd.R_below (by (with_reducible repeat (first | apply Kd.R_alloc | apply Kd.R_drewN | apply Kd.R_drew)); exact HO_10.out) hb)
                                have n2_ := Aside0.mk (blk_below (g := gb129) (o := .cells #[.int .i64 a0_0, .int .i64 a0_1, .slice A0_2 l0_2.length c0_2, .int .i64 a0_3] 24 (0, 0)) (by (with_reducible repeat (first | refine blk_drewN ?_ _ | refine blk_drew ?_ | refine blk_alloc ?_ _)); exact BK129.out) hb)
                                have n3_ := Aside0.mk (below_step (by repeat (first | (with_reducible first | exact HB.out | apply below_alloc | apply pw_below_drewN | apply below_drew1 | refine below_set ?_ GE129.out) | exact HB.out)) hb)
                                clear HO_9
                                clear HO_10
                                clear BK129
                                clear HB
                                have HO_9 := n0_
                                have HO_10 := n1_
                                have BK129 := n2_
                                have HB := n3_
                                clear n0_ n1_ n2_ n3_
                                (try clear hb)
                                (try clear hb2)
                                (try clear hk)
                                (try clear hi)
                                obtain ⟨Ao52, co52, eo52⟩ := Kd.R_slice HO_10.out
                                (first | subst eo52 | (injection eo52 with f1_ f2_ f3_; have f4_ := f1_.symm; have f5_ := f3_.symm; clear f1_ f2_ f3_; subst f4_; subst f5_))
                                refine hK.out _ _ ⟨(blk_cell BK129.out 0).trans rfl, (blk_cell BK129.out 1).trans rfl, (blk_cell BK129.out 2).trans rfl, (blk_cell BK129.out 3).trans rfl⟩ (fun hHeld => ?_)
                                clear hK K
                                refine norm_ (a' := ?_) ?_ ?_
                                rotate_left
                                · show Act.put _ (some 80) _ = _
                                  simp only [Act.put, List.setIfInBounds_toArray, List.set_cons_zero, List.set_cons_succ, i64_w, i32_w]
                                  rfl
                                refine one_ (i := 5) (N := some 83) #[true, true, true, true, true, true, false] rfl rfl (by kernel_rfl) (by decide) (fun K hK => ?_)
                                refine goes_ Tryd.func60 (by kernel_rfl) rfl #[.agg #[.int .i64 a0_0, .int .i64 a0_1, .slice A0_2 l0_2.length c0_2, .int .i64 a0_3], .slice Ao52 x10_3.length co52] (by rfl) rfl rfl (by (try simp only [List.map_toArray, List.map_cons, List.map_nil]); first | done | rfl | (simp only [List.length_drop, List.length_take]; rfl)) ?_
                                with_reducible refine (tree_at.calls k3 a0_0 a0_1 _ _ l0_2 a0_3 _ _ x10_3 t145 _ ?side1 ?side2 ?side3 ?side4 A44.out).mono ?_
                                (case side1 => repeat (first | exact (Kd.C_below HR0_2.out HB.out) | (with_reducible refine Kd.C_alloc ?_ _) | (with_reducible refine Kd.C_drewN ?_ _) | (with_reducible refine Kd.C_drew ?_)))
                                (case side2 => exact HC0_2.out)
                                (case side3 => repeat (first | exact (Kd.R_reads' HO_10.out).2.2 | (with_reducible refine Kd.C_alloc ?_ _) | (with_reducible refine Kd.C_drewN ?_ _) | (with_reducible refine Kd.C_drew ?_)))
                                (case side4 => exact (Kd.R_reads' HO_10.out).2.1)
                                rintro e w53 ⟨rfl, hb⟩
                                refine ⟨_, rfl, ?_⟩
                                have n0_ := Aside0.mk (Kd.R_below (by (with_reducible repeat (first | apply Kd.R_alloc | apply Kd.R_drewN | apply Kd.R_drew)); exact HO_9.out) hb)
                                have n1_ := Aside0.mk (Kd.R_below (by (with_reducible repeat (first | apply Kd.R_alloc | apply Kd.R_drewN | apply Kd.R_drew)); exact HO_10.out) hb)
                                have n2_ := Aside0.mk (blk_below (g := gb129) (o := .cells #[.int .i64 a0_0, .int .i64 a0_1, .slice A0_2 l0_2.length c0_2, .int .i64 a0_3] 24 (0, 0)) (by (with_reducible repeat (first | refine blk_drewN ?_ _ | refine blk_drew ?_ | refine blk_alloc ?_ _)); exact BK129.out) hb)
                                have n3_ := Aside0.mk (below_step (by repeat (first | (with_reducible first | exact HB.out | apply below_alloc | apply pw_below_drewN | apply below_drew1 | refine below_set ?_ GE129.out) | exact HB.out)) hb)
                                clear HO_9
                                clear HO_10
                                clear BK129
                                clear HB
                                have HO_9 := n0_
                                have HO_10 := n1_
                                have BK129 := n2_
                                have HB := n3_
                                clear n0_ n1_ n2_ n3_
                                (try clear hb)
                                (try clear hb2)
                                (try clear hk)
                                (try clear hi)
                                refine hK.out _ _ ⟨(blk_cell BK129.out 0).trans rfl, (blk_cell BK129.out 1).trans rfl, (blk_cell BK129.out 2).trans rfl, (blk_cell BK129.out 3).trans rfl⟩ (fun hHeld => ?_)
                                clear hK K
                                refine norm_ (a' := ?_) ?_ ?_
                                rotate_left
                                · show Act.put _ (some 83) _ = _
                                  simp only [Act.put, List.setIfInBounds_toArray, List.set_cons_zero, List.set_cons_succ, i64_w, i32_w]
                                  rfl
                                refine pure_ (i := 6) (N := some 84) (v := ?_) (a' := ?_) #[true, true, true, true, true, true, true] rfl rfl (by kernel_rfl) (fun _ _ _ h => h) (Or.inl ⟨by rfl, ?_⟩) ?_ ?_
                                rotate_left
                                · intro w'
                                  go_simp
                                  with_reducible rfl
                                rotate_left
                                · simp only [Act.put, List.setIfInBounds_toArray, List.set_cons_zero, List.set_cons_succ, i64_w, i32_w]
                                  rfl
                                refine done_ (by kernel_rfl) ?_
                                try go_wp2
                                go_ret2
                                exact ⟨by first | rfl | (simp [errW_none, errW_some] <;> rfl) | (simp [*, errW_none, errW_some] <;> rfl), by repeat (first | (with_reducible first | exact HB.out | apply below_alloc | apply pw_below_drewN | apply below_drew1 | refine below_set ?_ GE129.out) | exact HB.out)⟩
                · rw [if_neg c23] at H
                  have c23b0 : decide (x42_1 < t132) = false := decide_eq_false c23
                  clear c23
                  simp only [Option.some.injEq, Prod.mk.injEq] at H
                  obtain ⟨rfl, rfl⟩ := H
                  go_wp2
                  go_ret2
                  exact ⟨by first | rfl | (simp [errW_none, errW_some] <;> rfl) | (simp [*, errW_none, errW_some] <;> rfl), by repeat (first | (with_reducible first | exact HB.out | apply below_alloc | apply pw_below_drewN | apply below_drew1 | refine below_set ?_ GE129.out) | exact HB.out)⟩
          · rw [if_neg c10] at H
            exact absurd H (by simp)
        · rw [if_neg c9] at H
          exact absurd H (by simp)
      · replace c8 := Bool.eq_false_iff.mpr c8
        subst c8
        have H1 : (some (false, 4)) = some (r1, r2) := by rw [if_neg (show ¬ (false = true) by decide)] at H; exact H
        clear H
        have H := H1
        clear H1
        simp only [Option.some.injEq, Prod.mk.injEq] at H
        obtain ⟨rfl, rfl⟩ := H
        go_enter Tryd.func40, Tryd.ntmps40
        go_wp2_with (first | ((with_reducible refine gate_dst (N := 2) rfl ?_); refine box_event ?hg (N := 2) ?hd (cs := #[.int .i64 a0_0, .int .i64 a0_1, .slice A0_2 l0_2.length c0_2, .int .i64 a0_3]) (t := 24) ?hr ?_; (case hd => rfl); (case hg => rfl); (case hr => first | (go_simp; done) | (go_simp; rfl)); intro gb129 hg w54 hbox hb; have n0_ := Aside0.mk (below_step (by repeat (first | (with_reducible first | exact HB.out | apply below_alloc | apply pw_below_drewN | apply below_drew1) | exact HB.out)) hb); have n1_ := Aside0.mk (hbox); have n2_ := Aside0.mk ((by rw [hg]; exact (below_size (by repeat (first | (with_reducible first | exact HB.out | apply below_alloc | apply pw_below_drewN | apply below_drew1) | exact HB.out))) : w.heap.size ≤ gb129)); have n3_ := Aside0.mk ((by rw [hg]; exact (below_size (by repeat (first | (with_reducible first | exact HB.out | apply below_alloc | apply pw_below_drewN | apply below_drew1) | exact HB.out))) : w.heap.size ≤ gb129)); clear HB; have HB := n0_; have BK129 := n1_; have GW129 := n2_; have GE129 := n3_; clear n0_ n1_ n2_ n3_; clear hb hbox hg; have hcz55_0 : w54.cell? ⟨gb129, 0, none⟩ = some (.int .i64 a0_0) := (blk_cell BK129.out 0).trans rfl; have hcz55_1 : w54.cell? ⟨gb129, 1, none⟩ = some (.int .i64 a0_1) := (blk_cell BK129.out 1).trans rfl; have hcz55_2 : w54.cell? ⟨gb129, 2, none⟩ = some (.slice A0_2 l0_2.length c0_2) := (blk_cell BK129.out 2).trans rfl; have hcz55_3 : w54.cell? ⟨gb129, 3, none⟩ = some (.int .i64 a0_3) := (blk_cell BK129.out 3).trans rfl; have hfz55_0 := blk_frozen BK129.out 0; have hfz55_1 := blk_frozen BK129.out 1; have hfz55_2 := blk_frozen BK129.out 2; have hfz55_3 := blk_frozen BK129.out 3) | ((with_reducible refine gate_callee (f := 22) rfl ?_); refine goesL_ (some 16) rfl rfl Tryd.func22 (by kernel_rfl) rfl #[.agg #[.int .i64 a0_0, .int .i64 a0_1, .slice A0_2 l0_2.length c0_2, .int .i64 a0_3]] rfl (by (try simp only [List.map_toArray, List.map_cons, List.map_nil]); first | done | rfl | (simp only [List.length_drop, List.length_take]; rfl)) ?_; (with_reducible refine (tree_Check.calls k a0_0 a0_1 _ _ l0_2 a0_3 t130 _ ?side1 ?side2 A3.out).mono ?_); (case side1 => repeat (first | exact (Kd.C_below HR0_2.out HB.out) | (with_reducible refine Kd.C_alloc ?_ _) | (with_reducible refine Kd.C_drewN ?_ _) | (with_reducible refine Kd.C_drew ?_))); (case side2 => exact HC0_2.out); rintro e w56 ⟨rfl, hb⟩; refine ⟨_, rfl, ?_⟩; have n0_ := Aside0.mk (blk_below (g := gb129) (o := .cells #[.int .i64 a0_0, .int .i64 a0_1, .slice A0_2 l0_2.length c0_2, .int .i64 a0_3] 24 (0, 0)) (by (with_reducible repeat (first | refine blk_drewN ?_ _ | refine blk_drew ?_ | refine blk_alloc ?_ _)); exact BK129.out) hb); have n1_ := Aside0.mk (below_step (by repeat (first | (with_reducible first | exact HB.out | apply below_alloc | apply pw_below_drewN | apply below_drew1 | refine below_set ?_ GE129.out) | exact HB.out)) hb); clear BK129; clear HB; have BK129 := n0_; have HB := n1_; clear n0_ n1_; (try clear hb); (try clear hb2); (try clear hk); (try clear hi); have hcz57_0 : w56.cell? ⟨gb129, 0, none⟩ = some (.int .i64 a0_0) := (blk_cell BK129.out 0).trans rfl; have hcz57_1 : w56.cell? ⟨gb129, 1, none⟩ = some (.int .i64 a0_1) := (blk_cell BK129.out 1).trans rfl; have hcz57_2 : w56.cell? ⟨gb129, 2, none⟩ = some (.slice A0_2 l0_2.length c0_2) := (blk_cell BK129.out 2).trans rfl; have hcz57_3 : w56.cell? ⟨gb129, 3, none⟩ = some (.int .i64 a0_3) := (blk_cell BK129.out 3).trans rfl; have hfz57_0 := blk_frozen BK129.out 0; have hfz57_1 := blk_frozen BK129.out 1; have hfz57_2 := blk_frozen BK129.out 2; have hfz57_3 := blk_frozen BK129.out 3) | ((with_reducible refine gate_callee (f := 74) rfl ?_); refine goesL_ (some 23) rfl rfl Tryd.func74 (by kernel_rfl) rfl #[.slice A1 l1.length c1, .int .i64 a0_1] rfl (by (try simp only [List.map_toArray, List.map_cons, List.map_nil]); first | done | rfl | (simp only [List.length_drop, List.length_take]; rfl)) ?_; (with_reducible refine (tree_order.calls k _ _ l1 a0_1 true _ ?side1 ?side2 A5.out).mono ?_); (case side1 => repeat (first | exact (Kd.C_below HR1.out HB.out) | (with_reducible refine Kd.C_alloc ?_ _) | (with_reducible refine Kd.C_drewN ?_ _) | (with_reducible refine Kd.C_drew ?_))); (case side2 => exact HC1.out); rintro e w58 ⟨rfl, hb⟩; refine ⟨_, rfl, ?_⟩; have n0_ := Aside0.mk (blk_below (g := gb129) (o := .cells #[.int .i64 a0_0, .int .i64 a0_1, .slice A0_2 l0_2.length c0_2, .int .i64 a0_3] 24 (0, 0)) (by (with_reducible repeat (first | refine blk_drewN ?_ _ | refine blk_drew ?_ | refine blk_alloc ?_ _)); exact BK129.out) hb); have n1_ := Aside0.mk (below_step (by repeat (first | (with_reducible first | exact HB.out | apply below_alloc | apply pw_below_drewN | apply below_drew1 | refine below_set ?_ GE129.out) | exact HB.out)) hb); clear BK129; clear HB; have BK129 := n0_; have HB := n1_; clear n0_ n1_; (try clear hb); (try clear hb2); (try clear hk); (try clear hi); have hcz59_0 : w58.cell? ⟨gb129, 0, none⟩ = some (.int .i64 a0_0) := (blk_cell BK129.out 0).trans rfl; have hcz59_1 : w58.cell? ⟨gb129, 1, none⟩ = some (.int .i64 a0_1) := (blk_cell BK129.out 1).trans rfl; have hcz59_2 : w58.cell? ⟨gb129, 2, none⟩ = some (.slice A0_2 l0_2.length c0_2) := (blk_cell BK129.out 2).trans rfl; have hcz59_3 : w58.cell? ⟨gb129, 3, none⟩ = some (.int .i64 a0_3) := (blk_cell BK129.out 3).trans rfl; have hfz59_0 := blk_frozen BK129.out 0; have hfz59_1 := blk_frozen BK129.out 1; have hfz59_2 := blk_frozen BK129.out 2; have hfz59_3 := blk_frozen BK129.out 3) | ((with_reducible refine gate_callee (f := 70) rfl ?_); refine goesL_ (some 30) rfl rfl Tryd.func70 (by kernel_rfl) rfl #[.int .i64 a0_0, .int .i64 a0_1] rfl (by (try simp only [List.map_toArray, List.map_cons, List.map_nil]); first | done | rfl | (simp only [List.length_drop, List.length_take]; rfl)) ?_; (with_reducible refine (tree_rowsOf.calls k a0_0 a0_1 t132 false _ A7.out).mono ?_); rintro e w' ⟨rfl, ⟨nd, rfl⟩⟩; refine ⟨_, rfl, ?_⟩))
        go_ret2
        exact ⟨by first | rfl | (simp [errW_none, errW_some] <;> rfl) | (simp [*, errW_none, errW_some] <;> rfl), by repeat (first | (with_reducible first | exact HB.out | apply below_alloc | apply pw_below_drewN | apply below_drew1 | refine below_set ?_ GE129.out) | exact HB.out)⟩
    · replace c6 := Bool.eq_false_iff.mpr c6
      subst c6
      have H1 : (some (false, 111)) = some (r1, r2) := by rw [if_neg (show ¬ (false = true) by decide)] at H; exact H
      clear H
      have H := H1
      clear H1
      simp only [Option.some.injEq, Prod.mk.injEq] at H
      obtain ⟨rfl, rfl⟩ := H
      go_enter Tryd.func40, Tryd.ntmps40
      go_wp2_with (first | ((with_reducible refine gate_dst (N := 2) rfl ?_); refine box_event ?hg (N := 2) ?hd (cs := #[.int .i64 a0_0, .int .i64 a0_1, .slice A0_2 l0_2.length c0_2, .int .i64 a0_3]) (t := 24) ?hr ?_; (case hd => rfl); (case hg => rfl); (case hr => first | (go_simp; done) | (go_simp; rfl)); intro gb129 hg w60 hbox hb; have n0_ := Aside0.mk (below_step (by repeat (first | (with_reducible first | exact HB.out | apply below_alloc | apply pw_below_drewN | apply below_drew1) | exact HB.out)) hb); have n1_ := Aside0.mk (hbox); have n2_ := Aside0.mk ((by rw [hg]; exact (below_size (by repeat (first | (with_reducible first | exact HB.out | apply below_alloc | apply pw_below_drewN | apply below_drew1) | exact HB.out))) : w.heap.size ≤ gb129)); have n3_ := Aside0.mk ((by rw [hg]; exact (below_size (by repeat (first | (with_reducible first | exact HB.out | apply below_alloc | apply pw_below_drewN | apply below_drew1) | exact HB.out))) : w.heap.size ≤ gb129)); clear HB; have HB := n0_; have BK129 := n1_; have GW129 := n2_; have GE129 := n3_; clear n0_ n1_ n2_ n3_; clear hb hbox hg; have hcz61_0 : w60.cell? ⟨gb129, 0, none⟩ = some (.int .i64 a0_0) := (blk_cell BK129.out 0).trans rfl; have hcz61_1 : w60.cell? ⟨gb129, 1, none⟩ = some (.int .i64 a0_1) := (blk_cell BK129.out 1).trans rfl; have hcz61_2 : w60.cell? ⟨gb129, 2, none⟩ = some (.slice A0_2 l0_2.length c0_2) := (blk_cell BK129.out 2).trans rfl; have hcz61_3 : w60.cell? ⟨gb129, 3, none⟩ = some (.int .i64 a0_3) := (blk_cell BK129.out 3).trans rfl; have hfz61_0 := blk_frozen BK129.out 0; have hfz61_1 := blk_frozen BK129.out 1; have hfz61_2 := blk_frozen BK129.out 2; have hfz61_3 := blk_frozen BK129.out 3) | ((with_reducible refine gate_callee (f := 22) rfl ?_); refine goesL_ (some 16) rfl rfl Tryd.func22 (by kernel_rfl) rfl #[.agg #[.int .i64 a0_0, .int .i64 a0_1, .slice A0_2 l0_2.length c0_2, .int .i64 a0_3]] rfl (by (try simp only [List.map_toArray, List.map_cons, List.map_nil]); first | done | rfl | (simp only [List.length_drop, List.length_take]; rfl)) ?_; (with_reducible refine (tree_Check.calls k a0_0 a0_1 _ _ l0_2 a0_3 t130 _ ?side1 ?side2 A3.out).mono ?_); (case side1 => repeat (first | exact (Kd.C_below HR0_2.out HB.out) | (with_reducible refine Kd.C_alloc ?_ _) | (with_reducible refine Kd.C_drewN ?_ _) | (with_reducible refine Kd.C_drew ?_))); (case side2 => exact HC0_2.out); rintro e w62 ⟨rfl, hb⟩; refine ⟨_, rfl, ?_⟩; have n0_ := Aside0.mk (blk_below (g := gb129) (o := .cells #[.int .i64 a0_0, .int .i64 a0_1, .slice A0_2 l0_2.length c0_2, .int .i64 a0_3] 24 (0, 0)) (by (with_reducible repeat (first | refine blk_drewN ?_ _ | refine blk_drew ?_ | refine blk_alloc ?_ _)); exact BK129.out) hb); have n1_ := Aside0.mk (below_step (by repeat (first | (with_reducible first | exact HB.out | apply below_alloc | apply pw_below_drewN | apply below_drew1 | refine below_set ?_ GE129.out) | exact HB.out)) hb); clear BK129; clear HB; have BK129 := n0_; have HB := n1_; clear n0_ n1_; (try clear hb); (try clear hb2); (try clear hk); (try clear hi); have hcz63_0 : w62.cell? ⟨gb129, 0, none⟩ = some (.int .i64 a0_0) := (blk_cell BK129.out 0).trans rfl; have hcz63_1 : w62.cell? ⟨gb129, 1, none⟩ = some (.int .i64 a0_1) := (blk_cell BK129.out 1).trans rfl; have hcz63_2 : w62.cell? ⟨gb129, 2, none⟩ = some (.slice A0_2 l0_2.length c0_2) := (blk_cell BK129.out 2).trans rfl; have hcz63_3 : w62.cell? ⟨gb129, 3, none⟩ = some (.int .i64 a0_3) := (blk_cell BK129.out 3).trans rfl; have hfz63_0 := blk_frozen BK129.out 0; have hfz63_1 := blk_frozen BK129.out 1; have hfz63_2 := blk_frozen BK129.out 2; have hfz63_3 := blk_frozen BK129.out 3) | ((with_reducible refine gate_callee (f := 74) rfl ?_); refine goesL_ (some 23) rfl rfl Tryd.func74 (by kernel_rfl) rfl #[.slice A1 l1.length c1, .int .i64 a0_1] rfl (by (try simp only [List.map_toArray, List.map_cons, List.map_nil]); first | done | rfl | (simp only [List.length_drop, List.length_take]; rfl)) ?_; (with_reducible refine (tree_order.calls k _ _ l1 a0_1 false _ ?side1 ?side2 A5.out).mono ?_); (case side1 => repeat (first | exact (Kd.C_below HR1.out HB.out) | (with_reducible refine Kd.C_alloc ?_ _) | (with_reducible refine Kd.C_drewN ?_ _) | (with_reducible refine Kd.C_drew ?_))); (case side2 => exact HC1.out); rintro e w64 ⟨rfl, hb⟩; refine ⟨_, rfl, ?_⟩; have n0_ := Aside0.mk (blk_below (g := gb129) (o := .cells #[.int .i64 a0_0, .int .i64 a0_1, .slice A0_2 l0_2.length c0_2, .int .i64 a0_3] 24 (0, 0)) (by (with_reducible repeat (first | refine blk_drewN ?_ _ | refine blk_drew ?_ | refine blk_alloc ?_ _)); exact BK129.out) hb); have n1_ := Aside0.mk (below_step (by repeat (first | (with_reducible first | exact HB.out | apply below_alloc | apply pw_below_drewN | apply below_drew1 | refine below_set ?_ GE129.out) | exact HB.out)) hb); clear BK129; clear HB; have BK129 := n0_; have HB := n1_; clear n0_ n1_; (try clear hb); (try clear hb2); (try clear hk); (try clear hi)))
      go_ret2
      exact ⟨by first | rfl | (simp [errW_none, errW_some] <;> rfl) | (simp [*, errW_none, errW_some] <;> rfl), by repeat (first | (with_reducible first | exact HB.out | apply below_alloc | apply pw_below_drewN | apply below_drew1 | refine below_set ?_ GE129.out) | exact HB.out)⟩
  · rw [if_neg c4] at H
    have c4b0 : (t130 == 0) = false := beq_eq_false_iff_ne.mpr c4
    have c4b1 : (t130 != 0) = true := bne_iff_ne.mpr c4
    simp only [Option.some.injEq, Prod.mk.injEq] at H
    obtain ⟨rfl, rfl⟩ := H
    go_enter Tryd.func40, Tryd.ntmps40
    go_wp2_with (first | ((with_reducible refine gate_dst (N := 2) rfl ?_); refine box_event ?hg (N := 2) ?hd (cs := #[.int .i64 a0_0, .int .i64 a0_1, .slice A0_2 l0_2.length c0_2, .int .i64 a0_3]) (t := 24) ?hr ?_; (case hd => rfl); (case hg => rfl); (case hr => first | (go_simp; done) | (go_simp; rfl)); intro gb129 hg w65 hbox hb; have n0_ := Aside0.mk (below_step (by repeat (first | (with_reducible first | exact HB.out | apply below_alloc | apply pw_below_drewN | apply below_drew1) | exact HB.out)) hb); have n1_ := Aside0.mk (hbox); have n2_ := Aside0.mk ((by rw [hg]; exact (below_size (by repeat (first | (with_reducible first | exact HB.out | apply below_alloc | apply pw_below_drewN | apply below_drew1) | exact HB.out))) : w.heap.size ≤ gb129)); have n3_ := Aside0.mk ((by rw [hg]; exact (below_size (by repeat (first | (with_reducible first | exact HB.out | apply below_alloc | apply pw_below_drewN | apply below_drew1) | exact HB.out))) : w.heap.size ≤ gb129)); clear HB; have HB := n0_; have BK129 := n1_; have GW129 := n2_; have GE129 := n3_; clear n0_ n1_ n2_ n3_; clear hb hbox hg; have hcz66_0 : w65.cell? ⟨gb129, 0, none⟩ = some (.int .i64 a0_0) := (blk_cell BK129.out 0).trans rfl; have hcz66_1 : w65.cell? ⟨gb129, 1, none⟩ = some (.int .i64 a0_1) := (blk_cell BK129.out 1).trans rfl; have hcz66_2 : w65.cell? ⟨gb129, 2, none⟩ = some (.slice A0_2 l0_2.length c0_2) := (blk_cell BK129.out 2).trans rfl; have hcz66_3 : w65.cell? ⟨gb129, 3, none⟩ = some (.int .i64 a0_3) := (blk_cell BK129.out 3).trans rfl; have hfz66_0 := blk_frozen BK129.out 0; have hfz66_1 := blk_frozen BK129.out 1; have hfz66_2 := blk_frozen BK129.out 2; have hfz66_3 := blk_frozen BK129.out 3) | ((with_reducible refine gate_callee (f := 22) rfl ?_); refine goesL_ (some 16) rfl rfl Tryd.func22 (by kernel_rfl) rfl #[.agg #[.int .i64 a0_0, .int .i64 a0_1, .slice A0_2 l0_2.length c0_2, .int .i64 a0_3]] rfl (by (try simp only [List.map_toArray, List.map_cons, List.map_nil]); first | done | rfl | (simp only [List.length_drop, List.length_take]; rfl)) ?_; (with_reducible refine (tree_Check.calls k a0_0 a0_1 _ _ l0_2 a0_3 t130 _ ?side1 ?side2 A3.out).mono ?_); (case side1 => repeat (first | exact (Kd.C_below HR0_2.out HB.out) | (with_reducible refine Kd.C_alloc ?_ _) | (with_reducible refine Kd.C_drewN ?_ _) | (with_reducible refine Kd.C_drew ?_))); (case side2 => exact HC0_2.out); rintro e w67 ⟨rfl, hb⟩; refine ⟨_, rfl, ?_⟩; have n0_ := Aside0.mk (blk_below (g := gb129) (o := .cells #[.int .i64 a0_0, .int .i64 a0_1, .slice A0_2 l0_2.length c0_2, .int .i64 a0_3] 24 (0, 0)) (by (with_reducible repeat (first | refine blk_drewN ?_ _ | refine blk_drew ?_ | refine blk_alloc ?_ _)); exact BK129.out) hb); have n1_ := Aside0.mk (below_step (by repeat (first | (with_reducible first | exact HB.out | apply below_alloc | apply pw_below_drewN | apply below_drew1 | refine below_set ?_ GE129.out) | exact HB.out)) hb); clear BK129; clear HB; have BK129 := n0_; have HB := n1_; clear n0_ n1_; (try clear hb); (try clear hb2); (try clear hk); (try clear hi)))
    go_ret2
    exact ⟨by first | rfl | (simp [errW_none, errW_some] <;> rfl) | (simp [*, errW_none, errW_some] <;> rfl), by repeat (first | (with_reducible first | exact HB.out | apply below_alloc | apply pw_below_drewN | apply below_drew1 | refine below_set ?_ GE129.out) | exact HB.out)⟩
end Go.Proofs.YtbnonnogkgbpiaaDoor.PT
end
section
namespace Go.Proofs
open Go.Shelf
def Tryd.lays170_ren : Go.Shelf.Ren := ⟨fun | 170 => 54 | n => n, fun | 70 => 87 | 3 => 3 | 0 => 0 | 72 => 89 | 37 => 33 | 5 => 5 | n => n, fun | n => n⟩
theorem Tryd.lays170 : Go.Proofs.Lays.n170 Tryd.prog Tryd.lays170_ren := {
  mixed := by kernel_rfl
  f170 := Tryd.func54.trans (congrArg some (by kernel_rfl))
  t0 := Tryd.underlying0
  a0 := Tryd.isAgg0
  z0 := Tryd.sizeOf0
  v0 := Tryd.zeroValue0
  t3 := Tryd.underlying3
  a3 := Tryd.isAgg3
  z3 := Tryd.sizeOf3
  v3 := Tryd.zeroValue3
  t37 := Tryd.underlying33
  a37 := Tryd.isAgg33
  z37 := Tryd.sizeOf33
  v37 := Tryd.zeroValue33
  t70 := Tryd.underlying87
  a70 := Tryd.isAgg87
  z70 := Tryd.sizeOf87
  v70 := Tryd.zeroValue87
  t72 := Tryd.underlying89
  a72 := Tryd.isAgg89
  z72 := Tryd.sizeOf89
  v72 := Tryd.zeroValue89 }
open Go.RowKit in
theorem Tryd.Builder_Len (B b : Nat) (bs : List Value) (w : World) (h : Lib.IsBuilder 89 5 B b bs w) :
    Calls Tryd.prog 54 #[.pointer (some ⟨b, 0, none⟩)] w fun e w' => e = .returned (.int .i64 bs.length) ∧ w' = w := Any.Builder_Len Tryd.lays170 B b bs w h
def Tryd.lays169_ren : Go.Shelf.Ren := ⟨fun | 169 => 55 | n => n, fun | 70 => 87 | 9 => 9 | 0 => 0 | 72 => 89 | 37 => 33 | 127 => 137 | 3 => 3 | 5 => 5 | n => n, fun | n => n⟩
theorem Tryd.lays169 : Go.Proofs.Lays.n169 Tryd.prog Tryd.lays169_ren := {
  mixed := by kernel_rfl
  f169 := Tryd.func55.trans (congrArg some (by kernel_rfl))
  t0 := Tryd.underlying0
  a0 := Tryd.isAgg0
  z0 := Tryd.sizeOf0
  v0 := Tryd.zeroValue0
  t3 := Tryd.underlying3
  a3 := Tryd.isAgg3
  z3 := Tryd.sizeOf3
  v3 := Tryd.zeroValue3
  t9 := Tryd.underlying9
  a9 := Tryd.isAgg9
  z9 := Tryd.sizeOf9
  v9 := Tryd.zeroValue9
  t37 := Tryd.underlying33
  a37 := Tryd.isAgg33
  z37 := Tryd.sizeOf33
  v37 := Tryd.zeroValue33
  t70 := Tryd.underlying87
  a70 := Tryd.isAgg87
  z70 := Tryd.sizeOf87
  v70 := Tryd.zeroValue87
  t72 := Tryd.underlying89
  a72 := Tryd.isAgg89
  z72 := Tryd.sizeOf89
  v72 := Tryd.zeroValue89
  t127 := Tryd.underlying137
  a127 := Tryd.isAgg137
  z127 := Tryd.sizeOf137
  v127 := Tryd.zeroValue137 }
theorem Tryd.Builder_Extra_169 : Builder.Extra Tryd.prog Tryd.lays169_ren := {
  sizeBuilder := by kernel_rfl
  liesBuilder := by kernel_rfl
  t5 := Tryd.underlying5
  a5 := Tryd.isAgg5
  z5 := Tryd.sizeOf5
  v5 := Tryd.zeroValue5
  infoByte := by kernel_rfl
  cellsByte := by kernel_rfl
  sizeByte := by kernel_rfl
  neB5 := by decide }
open Go.RowKit in
theorem Tryd.Builder_String_any (B b : Nat) (l : List UInt8) (w : World) (h : Lib.IsBuilder 89 5 B b (Lib.byteCells l) w) (hBw : B ≤ w.heap.size) :
    Calls Tryd.prog 55 #[.pointer (some ⟨b, 0, none⟩)] w fun e w' => e = .returned (.string ⟨l.toArray⟩) ∧ Below B w w' := Any.Builder_String_any Tryd.lays169 Tryd.Builder_Extra_169 B b l w h hBw
def Tryd.laysM171_ren : Go.Shelf.Ren := ⟨fun | 171 => 52 | 243 => 85 | 246 => 89 | 283 => 90 | 284 => 91 | 285 => 92 | 286 => 93 | 129 => 95 | 317 => 94 | 318 => 96 | 319 => 97 | 320 => 98 | 337 => 99 | 338 => 100 | n => n, fun | 3 => 3 | 9 => 9 | 2 => 2 | 4 => 4 | 171 => 146 | 0 => 0 | 53 => 147 | 37 => 33 | 5 => 5 | 173 => 150 | 212 => 153 | 51 => 154 | 20 => 20 | 213 => 155 | 46 => 36 | 232 => 159 | 233 => 160 | n => n, fun | 17 => 0 | 18 => 1 | 19 => 2 | n => n⟩
theorem Tryd.laysM171 : Go.Proofs.LaysM.n171 Tryd.prog Tryd.laysM171_ren := {
  mixed := by kernel_rfl
  f129 := Tryd.func95.trans (congrArg some (by kernel_rfl))
  f171 := Tryd.func52.trans (congrArg some (by kernel_rfl))
  f243 := Tryd.func85.trans (congrArg some (by kernel_rfl))
  f246 := Tryd.func89.trans (congrArg some (by kernel_rfl))
  f283 := Tryd.func90.trans (congrArg some (by kernel_rfl))
  f284 := Tryd.func91.trans (congrArg some (by kernel_rfl))
  f285 := Tryd.func92.trans (congrArg some (by kernel_rfl))
  f286 := Tryd.func93.trans (congrArg some (by kernel_rfl))
  f317 := Tryd.func94.trans (congrArg some (by kernel_rfl))
  f318 := Tryd.func96.trans (congrArg some (by kernel_rfl))
  f319 := Tryd.func97.trans (congrArg some (by kernel_rfl))
  f320 := Tryd.func98.trans (congrArg some (by kernel_rfl))
  f337 := Tryd.func99.trans (congrArg some (by kernel_rfl))
  f338 := Tryd.func100.trans (congrArg some (by kernel_rfl))
  t0 := Tryd.underlying0
  a0 := Tryd.isAgg0
  z0 := Tryd.sizeOf0
  v0 := Tryd.zeroValue0
  t2 := Tryd.underlying2
  a2 := Tryd.isAgg2
  z2 := Tryd.sizeOf2
  v2 := Tryd.zeroValue2
  t3 := Tryd.underlying3
  a3 := Tryd.isAgg3
  z3 := Tryd.sizeOf3
  v3 := Tryd.zeroValue3
  t4 := Tryd.underlying4
  a4 := Tryd.isAgg4
  z4 := Tryd.sizeOf4
  v4 := Tryd.zeroValue4
  t5 := Tryd.underlying5
  a5 := Tryd.isAgg5
  z5 := Tryd.sizeOf5
  v5 := Tryd.zeroValue5
  t9 := Tryd.underlying9
  a9 := Tryd.isAgg9
  z9 := Tryd.sizeOf9
  v9 := Tryd.zeroValue9
  t20 := Tryd.underlying20
  a20 := Tryd.isAgg20
  z20 := Tryd.sizeOf20
  v20 := Tryd.zeroValue20
  t37 := Tryd.underlying33
  a37 := Tryd.isAgg33
  z37 := Tryd.sizeOf33
  v37 := Tryd.zeroValue33
  t46 := Tryd.underlying36
  a46 := Tryd.isAgg36
  z46 := Tryd.sizeOf36
  v46 := Tryd.zeroValue36
  t51 := Tryd.underlying154
  a51 := Tryd.isAgg154
  z51 := Tryd.sizeOf154
  v51 := Tryd.zeroValue154
  t53 := Tryd.underlying147
  a53 := Tryd.isAgg147
  z53 := Tryd.sizeOf147
  v53 := Tryd.zeroValue147
  t171 := Tryd.underlying146
  a171 := Tryd.isAgg146
  z171 := Tryd.sizeOf146
  v171 := Tryd.zeroValue146
  t173 := Tryd.underlying150
  a173 := Tryd.isAgg150
  z173 := Tryd.sizeOf150
  v173 := Tryd.zeroValue150
  t212 := Tryd.underlying153
  a212 := Tryd.isAgg153
  z212 := Tryd.sizeOf153
  v212 := Tryd.zeroValue153
  t213 := Tryd.underlying155
  a213 := Tryd.isAgg155
  z213 := Tryd.sizeOf155
  t232 := Tryd.underlying159
  a232 := Tryd.isAgg159
  z232 := Tryd.sizeOf159
  v232 := Tryd.zeroValue159
  t233 := Tryd.underlying160
  a233 := Tryd.isAgg160
  z233 := Tryd.sizeOf160
  v233 := Tryd.zeroValue160
  g17 := by kernel_rfl
  g18 := by kernel_rfl
  g19 := by kernel_rfl
  i0 := by kernel_rfl
  i2 := by kernel_rfl
  i3 := by kernel_rfl
  i4 := by kernel_rfl
  i5 := by kernel_rfl
  i9 := by kernel_rfl
  i20 := by kernel_rfl
  i37 := by kernel_rfl
  i46 := by kernel_rfl
  i51 := by kernel_rfl
  i53 := by kernel_rfl
  i171 := by kernel_rfl
  i173 := by kernel_rfl
  i212 := by kernel_rfl
  i232 := by kernel_rfl
  i233 := by kernel_rfl
  m17 := by kernel_rfl
  m18 := by kernel_rfl
  m19 := by kernel_rfl }
open Go.RowKit Go.Sort Go.Lib in
theorem Tryd.strconv_Itoa (n : Int) (h0 : -9223372036854775808 ≤ n) (h1 : n ≤ 9223372036854775807) (w : World) (htab : Lib.TabIs Tryd.prog w "internal/strconv.uint64pow10" .u64 Lib.pow10Tab) :
    Calls Tryd.prog 52 #[.int .i64 n] w fun e w' => e = .returned (.string ⟨(Lib.itoa n).toArray⟩) ∧ ∃ k os, w' = grow (w.drewN k) os := Any.strconv_Itoa Tryd.laysM171 n h0 h1 w htab
end Go.Proofs
end
section
namespace Go.Proofs.YtbnonnogkgbpiaaDoor.Bld
open Go.RowKit Go.Shelf
set_option linter.unusedVariables false
theorem X : Builder.Extra Tryd.prog Tryd.lays169_ren := Tryd.Builder_Extra_169
set_option maxHeartbeats 1000000 in
set_option maxRecDepth 100000 in
theorem check_used (b : Nat) (w : World) (h0 : w.cell? ⟨b, 0, none⟩ = some (.pointer (some ⟨b, 0, none⟩))) :
    Calls Tryd.prog 84 #[.pointer (some ⟨b, 0, none⟩)] w fun e w' => e = .returned (.tuple #[]) ∧ w' = w := by
  obtain ⟨j, hj, _⟩ := Option.map_eq_some_iff.1 X.sizeBuilder
  go_enter Tryd.func84, Tryd.ntmps84
  go_wp2
  rw [Lib.run_neq_ptr_same w _ Tryd.underlying87 hj]
  go_wp2
  go_end0
  exact ⟨rfl, rfl⟩
set_option maxHeartbeats 1000000 in
set_option maxRecDepth 100000 in
theorem check_fresh (b : Nat) (w : World) (h0 : w.cell? ⟨b, 0, none⟩ = some (.pointer none)) (hsh : w.shape? b = some (89, 2)) (hfz : w.frozen? ⟨b, 0, none⟩ = false) :
    Calls Tryd.prog 84 #[.pointer (some ⟨b, 0, none⟩)] w fun e w' => e = .returned (.tuple #[]) ∧ w' = w.setCell ⟨b, 0, none⟩ (.pointer (some ⟨b, 0, none⟩)) := by
  obtain ⟨j, hj, hjs⟩ := Option.map_eq_some_iff.1 X.sizeBuilder
  go_enter Tryd.func84, Tryd.ntmps84
  go_wp2
  rw [Lib.run_to_unsafe w ⟨b, 0, none⟩ Tryd.underlying87 Tryd.underlying143 hj (by rw [hjs]; decide) hsh (Nat.zero_lt_succ 1)]
  simp only [Result.andThen]
  rw [Oper.upon_value]
  go_wp2
  rw [run_callFunc_extern Tryd.func88 (by kernel_rfl) (by kernel_rfl) (by kernel_rfl) (e := Extern.AbiNoEscape.same) (by kernel_rfl)]
  rw [Lib.run_noEscape]
  simp only [Result.andThen]
  rw [Oper.upon_value]
  go_wp2
  rw [Lib.run_from_unsafe w ⟨b, 0, none⟩ Tryd.underlying143 Tryd.underlying87 hj hsh X.liesBuilder]
  simp only [Result.andThen]
  rw [Oper.upon_value]
  go_wp2
  go_end0
  exact ⟨rfl, rfl⟩
theorem check (B b : Nat) (bs : List Value) (w : World) (h : Lib.IsBuilder 89 5 B b bs w) :
    Calls Tryd.prog 84 #[.pointer (some ⟨b, 0, none⟩)] w fun e w' => e = .returned (.tuple #[]) ∧ (Lib.BuilderAt 89 5 B b (.pointer (some ⟨b, 0, none⟩)) bs w' ∧ Below B w w' ∧ Lib.OthersKept 5 (some b) w w') := by
  rcases h with h | h
  · refine (check_fresh b w h.cell0 h.shape h.frozen0).mono ?_
    rintro e w' ⟨rfl, rfl⟩
    exact ⟨rfl, h.used _, (Below.refl B w).setCell (p := ⟨b, 0, none⟩) h.1 _, (Lib.OthersKept.refl _ _ w).setCell ⟨b, 0, none⟩ rfl _⟩
  · refine (check_used b w h.cell0).mono ?_
    rintro e w' ⟨rfl, rfl⟩
    exact ⟨rfl, h, Below.refl B _, Lib.OthersKept.refl _ _ _⟩
theorem in_heap {w : World} {b : Nat} {o : Obj} (h : w.heap[b]? = some o) : b < w.heap.size := by
  rcases Nat.lt_or_ge b w.heap.size with h' | h'
  · exact h'
  · simp [Array.getElem?_eq_none h'] at h
set_option maxHeartbeats 2000000 in
set_option maxRecDepth 100000 in
theorem byte (B b : Nat) (bs : List Value) (c : Int) (w : World) (h : Lib.IsBuilder 89 5 B b bs w) (hlen : bs.length + 1 ≤ 140737488355328) (hBw : B ≤ w.heap.size) :
    Calls Tryd.prog 53 #[.pointer (some ⟨b, 0, none⟩), .int .u8 c] w fun e w' => e = .returned .nilIface ∧ (Lib.IsBuilder 89 5 B b (bs ++ [.int .u8 c]) w' ∧ Below B w w' ∧ Lib.OthersKept 5 (some b) w w') := by
  obtain ⟨i0, hi, hz0, hz1, hz2⟩ := info_parts X.infoByte
  go_enter Tryd.func53, Tryd.ntmps53
  go_wp2_with (go_at_call 84; refine (check B b bs _ h).mono ?_)
  rintro e w1 ⟨rfl, h1, hb1, hk1⟩
  obtain ⟨hB, v, hbk, hown, hne⟩ := h1
  have c0 : w1.cell? ⟨b, 0, none⟩ = some (.pointer (some ⟨b, 0, none⟩)) := by rw [Lib.cell_of_heap hbk]; rfl
  have c1 : w1.cell? ⟨b, 1, none⟩ = some v := by rw [Lib.cell_of_heap hbk]; rfl
  have hlt : b < w1.heap.size := in_heap hbk
  go_wp2_with (at_builtin; refine wpList_append_own _ rfl _ _ 33 rfl B 5 i0 (.int .u8 0) 1 1 Tryd.underlying33 hi hz0 hz1 hz2 rfl (by decide) _ _ _ rfl (hown.alloc _) ⟨w1.heap.size, 0, none⟩ 1 1 [.int .u8 c] rfl rfl ?c1 ?c2 ?c3 ?c4 ?c5 ?_)
  case c1 =>
    intro j u hj
    match j, hj with
    | 0, hj => simp at hj; subst hj; simp [Addr.add]
  case c2 => intro u hu; simp at hu; subst hu; rfl
  case c3 => unfold maxLen; omega
  case c4 => omega
  case c5 => have := hb1.size; simp; omega
  intro v' w2 hown' hgrow _
  have hb2 : w2.heap[b]? = some (.cells #[.pointer (some ⟨b, 0, none⟩), v] 89 (0, 0)) := by
    rw [hgrow.block b (by simp; omega) (fun e => hne e.symm), Lib.alloc_old w1 _ b hlt]
    exact hbk
  have d0 : w2.cell? ⟨b, 0, none⟩ = some (.pointer (some ⟨b, 0, none⟩)) := by rw [Lib.cell_of_heap hb2]; rfl
  have d1 : w2.cell? ⟨b, 1, none⟩ = some v := by rw [Lib.cell_of_heap hb2]; rfl
  have f1 : w2.frozen? ⟨b, 1, none⟩ = false := Lib.frozen_of_heap hb2 1
  obtain ⟨g, cap, rfl⟩ : ∃ g cap, v' = .slice (some ⟨g, 0, none⟩) (bs.length + 1) cap := by
    rcases hown'.2 with ⟨_, h0⟩ | ⟨g, cap, cur, hv, _⟩
    · omega
    · exact ⟨g, cap, hv⟩
  go_wp2
  go_ret
  refine ⟨rfl, .inr ?_, ?_, ((hk1.alloc _).grown hgrow (Lib.ownsRow_kind (hown.alloc _))).setCell ⟨b, 1, none⟩ rfl _⟩
  · exact Lib.BuilderAt.put (T := 89) (e := 5) hB hb2 (bs' := bs ++ [.int .u8 c]) (by simpa using hown') X.neB5
  · exact ((hb1.alloc (by have := hb1.size; omega) _).grown hgrow (by have := hb1.size; simp; omega) (fun k hk => (hown.lt k hk).1)).setCell (p := ⟨b, 1, none⟩) hB _
set_option maxHeartbeats 2000000 in
set_option maxRecDepth 100000 in
theorem text (B b : Nat) (bs : List Value) (s : ByteArray) (w : World) (h : Lib.IsBuilder 89 5 B b bs w) (hlen : bs.length + s.size ≤ 140737488355328) (hBw : B ≤ w.heap.size) :
    Calls Tryd.prog 51 #[.pointer (some ⟨b, 0, none⟩), .string s] w fun e w' => e = .returned (.tuple #[.int .i64 s.size, .nilIface]) ∧ (Lib.IsBuilder 89 5 B b (bs ++ Lib.strCells s) w' ∧ Below B w w' ∧ Lib.OthersKept 5 (some b) w w') := by
  obtain ⟨i0, hi, hz0, hz1, hz2⟩ := info_parts X.infoByte
  go_enter Tryd.func51, Tryd.ntmps51
  go_wp2_with (go_at_call 84; refine (check B b bs _ h).mono ?_)
  rintro e w1 ⟨rfl, h1, hb1, hk1⟩
  obtain ⟨hB, v, hbk, hown, hne⟩ := h1
  have c0 : w1.cell? ⟨b, 0, none⟩ = some (.pointer (some ⟨b, 0, none⟩)) := by rw [Lib.cell_of_heap hbk]; rfl
  have c1 : w1.cell? ⟨b, 1, none⟩ = some v := by rw [Lib.cell_of_heap hbk]; rfl
  have hlt : b < w1.heap.size := in_heap hbk
  go_wp2_with (at_builtin; refine Lib.wpList_append_own_string _ rfl _ _ 33 9 rfl B 5 i0 Tryd.underlying33 Tryd.underlying9 hi hz0 hz1 hz2 _ _ _ rfl hown s rfl ?c3 ?c4 ?c5 ?_)
  case c3 => unfold maxLen; omega
  case c4 => omega
  case c5 => have := hb1.size; omega
  intro v' w2 hown' hgrow _
  have hb2 : w2.heap[b]? = some (.cells #[.pointer (some ⟨b, 0, none⟩), v] 89 (0, 0)) := by
    rw [hgrow.block b hlt (fun e => hne e.symm)]
    exact hbk
  have d0 : w2.cell? ⟨b, 0, none⟩ = some (.pointer (some ⟨b, 0, none⟩)) := by rw [Lib.cell_of_heap hb2]; rfl
  have d1 : w2.cell? ⟨b, 1, none⟩ = some v := by rw [Lib.cell_of_heap hb2]; rfl
  have f1 : w2.frozen? ⟨b, 1, none⟩ = false := Lib.frozen_of_heap hb2 1
  obtain ⟨ao, n', cap, rfl⟩ : ∃ ao n' cap, v' = .slice ao n' cap := by
    rcases hown'.2 with ⟨hv, _⟩ | ⟨g, cap, cur, hv, _⟩
    · exact ⟨_, _, _, hv⟩
    · exact ⟨_, _, _, hv⟩
  go_wp2
  go_ret2
  refine ⟨rfl, .inr ?_, ?_, (hk1.grown hgrow (Lib.ownsRow_kind hown)).setCell ⟨b, 1, none⟩ rfl _⟩
  · exact Lib.BuilderAt.put (T := 89) (e := 5) hB hb2 (bs' := bs ++ Lib.strCells s) (by simpa [Lib.strCells_length] using hown') X.neB5
  · exact (hb1.grown hgrow (by have := hb1.size; omega) (fun k hk => (hown.lt k hk).1)).setCell (p := ⟨b, 1, none⟩) hB _
end Go.Proofs.YtbnonnogkgbpiaaDoor.Bld
end
section
namespace Go.Proofs.YtbnonnogkgbpiaaDoor.PT
open Go.RowKit Go.Proofs.YtbnonnogkgbpiaaDoorW.PrintWords Go.Proofs.YtbnonnogkgbpiaaDoorW.PrintLast Go.Proofs.YtbnonnogkgbpiaaDoorW.PrintMore
attribute [local go_sem] max2_int min2_int max_two min_two max_three min_three max_four min_four   -- for this text's walks alone
set_option linter.unusedVariables false
set_option linter.unusedSimpArgs false
end Go.Proofs.YtbnonnogkgbpiaaDoor.PT
end
section
namespace Go.Proofs.YtbnonnogkgbpiaaDoor.TreePlain
open Go Go.RowKit Go.Proofs.YtbnonnogkgbpiaaDoorW.PrintWords Go.Proofs.YtbnonnogkgbpiaaDoorW.PrintLast Go.Proofs.YtbnonnogkgbpiaaDoorW.PrintMore Go.Proofs.YtbnonnogkgbpiaaDoor.PT
set_option linter.unusedVariables false
set_option linter.unusedSimpArgs false
def nd (l : List S49) (i : Nat) : S49 := l.getD i z49
def kidsFit (lv : List Int) (i : Nat) (ks : List Int) (j : Nat) : Prop := ∀ q, j ≤ q → q < ks.length → 0 ≤ rd ks q ∧ rd ks q < i ∧ rd lv (rd ks q) = rd lv (rd ks 0)
instance (lv : List Int) (i : Nat) (ks : List Int) (j : Nat) : Decidable (kidsFit lv i ks j) :=
  decidable_of_iff (∀ q, q < ks.length → j ≤ q → 0 ≤ rd ks q ∧ rd ks q < i ∧ rd lv (rd ks q) = rd lv (rd ks 0)) ⟨fun h q a b => h q b a, fun h q a b => h q b a⟩
def chkTo (st : Int) (l : List S49) : Nat → Option (List Int)
  | 0 => some (List.replicate l.length 0)
  | i + 1 => (chkTo st l i).bind fun lv =>
    if (nd l i).f1.length = 0 then (if (nd l i).f0 ≥ st then none else some lv)
    else if (nd l i).f0 = 0 ∧ ((nd l i).f1.length : Int) = st ∧ kidsFit lv i (nd l i).f1 0 then some (lv.set i (rd lv (rd (nd l i).f1 0) + 1)) else none
def chkEnd (st n : Int) (l : List S49) (rt : Int) : Int :=
  match chkTo st l l.length with
  | none => 110
  | some lv => if rd lv rt = n then 0 else 110
def chk (st n : Int) (l : List S49) (rt : Int) : Int :=
  if st < 1 ∨ st > 256 ∨ n < 0 ∨ n > 16 ∨ (l.length : Int) < 1 ∨ (l.length : Int) > 65536 ∨ rt < 0 ∨ rt ≥ l.length then 110 else chkEnd st n l rt
def Bytes (l : List S49) : Prop := ∀ x ∈ l, 0 ≤ x.f0 ∧ x.f0 ≤ 255
theorem nd_bytes {l : List S49} (h : Bytes l) (i : Nat) : 0 ≤ (nd l i).f0 ∧ (nd l i).f0 ≤ 255 := by
  unfold nd
  rw [List.getD_eq_getElem?_getD]
  rcases hq : l[i]? with _ | x
  · exact ⟨by decide, by decide⟩
  · exact h x (List.mem_of_getElem? hq)
section
variable {st n rt : Int} {l : List S49}
end
end Go.Proofs.YtbnonnogkgbpiaaDoor.TreePlain
end
section
namespace Go.Proofs.YtbnonnogkgbpiaaDoor.TreeText
open Go Go.RowKit Go.Proofs.YtbnonnogkgbpiaaDoorW.PrintWords Go.Proofs.YtbnonnogkgbpiaaDoorW.PrintLast Go.Proofs.YtbnonnogkgbpiaaDoorW.PrintMore Go.Proofs.YtbnonnogkgbpiaaDoor.PT Go.Proofs.YtbnonnogkgbpiaaDoor.TreePlain
set_option linter.unusedVariables false
set_option linter.unusedSimpArgs false
def spacedT (ks : List Int) : Nat → List UInt8
  | 0 => []
  | j + 1 => spacedT ks j ++ (32 :: Lib.itoa (rd ks j))
def kidsT (ks : List Int) : Nat → List UInt8
  | 0 => []
  | j + 1 => kidsT ks j ++ ((if 0 < j then [32] else []) ++ Lib.itoa (rd ks j))
def lineT (x : S49) : List UInt8 := (if x.f1.length = 0 then [61, 32] ++ Lib.itoa x.f0 else []) ++ (kidsT x.f1 x.f1.length ++ [10])
def headT (st n len rt : Int) : List UInt8 := [116, 114, 101, 101] ++ (spacedT [st, n, len, rt] 4 ++ [10])
def restT (l : List S49) : Nat → Nat → List UInt8 → Option (List UInt8)
  | 0, i, t => some t
  | d + 1, i, t => if 1048576 < (t ++ lineT (nd l i)).length then none else restT l d (i + 1) (t ++ lineT (nd l i))
def outT : Option (List UInt8) → List UInt8 × Int
  | none => ([], 3)
  | some t => (t, 0)
def printP (st n : Int) (l : List S49) (rt : Int) : List UInt8 × Int := outT (restT l l.length 0 (headT st n l.length rt))
theorem nDigits_le : ∀ (k u : Nat), u < 10 ^ (k + 1) → Lib.nDigits u ≤ k + 1
  | k, u, h => by
    by_cases c : u < 10
    · rw [Lib.nDigits_small c]
      omega
    · rw [Lib.nDigits_big c]
      cases k with
      | zero => simp at h; omega
      | succ k =>
        have := nDigits_le k (u / 10) (by rw [Nat.pow_succ] at h; omega)
        omega
theorem itoa_len (n : Int) (h0 : -9223372036854775808 ≤ n) (h1 : n ≤ 9223372036854775807) : (Lib.itoa n).length ≤ 20 := by
  unfold Lib.itoa
  split
  · rw [List.length_cons, Lib.decDigits_length]
    have := nDigits_le 18 n.natAbs (by omega)
    omega
  · rw [Lib.decDigits_length]
    have := nDigits_le 19 n.toNat (by omega)
    omega
theorem kidsT_len (ks : List Int) (h : ∀ q, q < ks.length → -9223372036854775808 ≤ rd ks q ∧ rd ks q ≤ 9223372036854775807) : ∀ j, j ≤ ks.length → (kidsT ks j).length ≤ 21 * j
  | 0, _ => Nat.le_refl _
  | j + 1, hj => by
    have ih := kidsT_len ks h j (by omega)
    have := itoa_len _ (h j (by omega)).1 (h j (by omega)).2
    simp only [kidsT, List.length_append]
    split <;> simp <;> omega
def Pow (w : World) : Prop := Lib.TabIs Tryd.prog w "internal/strconv.uint64pow10" .u64 Lib.pow10Tab
theorem Pow.on {w w' : World} (h : Pow w) (hb : Below w.heap.size w w') : Pow w' := by
  unfold Pow at h ⊢
  exact Lib.tabBelow_of_tabIs h _ hb
theorem itoa_any (n : Int) (h0 : -9223372036854775808 ≤ n) (h1 : n ≤ 9223372036854775807) (w : World) (hp : Pow w) :
    Calls Tryd.prog 52 #[.int .i64 n] w fun e w' => e = .returned (.string ⟨(Lib.itoa n).toArray⟩) ∧ Below w.heap.size w w' := by
  refine (Tryd.strconv_Itoa n h0 h1 _ hp).mono ?_
  rintro e w' ⟨rfl, k, os, rfl⟩
  exact ⟨rfl, Lib.below_grow _ _ (Nat.le_refl _) k os⟩
theorem cat_eq (a b : List UInt8) : (⟨a.toArray⟩ : ByteArray) ++ (⟨b.toArray⟩ : ByteArray) = ⟨(a ++ b).toArray⟩ := by
  apply ByteArray.ext
  simp [ByteArray.data_append]
theorem mono {B B' : Nat} {w w' : World} (h : Below B w w') (hb : B' ≤ B) : Below B' w w' := ⟨h.os, h.tape, h.output, h.size, fun k hk => h.block k (Nat.lt_of_lt_of_le hk hb)⟩
theorem isb_on {W W' : World} {b : Nat} {l : List Value} (h : Lib.IsBuilder 89 5 b b l W) (hb : Below W.heap.size W W') : Lib.IsBuilder 89 5 b b l W' := by
  have go : ∀ p, Lib.BuilderAt 89 5 b b p l W → Lib.BuilderAt 89 5 b b p l W' := by
    rintro p ⟨hB, v, hbk, ⟨h1, h2⟩, hne⟩
    refine ⟨hB, v, (hb.block b (Bld.in_heap hbk)).trans hbk, ⟨h1, ?_⟩, hne⟩
    rcases h2 with h | ⟨g, cap, cur, hv, hg, hh, hr⟩
    · exact .inl h
    · exact .inr ⟨g, cap, cur, hv, hg, (hb.block g (Bld.in_heap hh)).trans hh, hr⟩
  exact h.imp (go _) (go _)
def Kp (W W' : World) : Prop := ∀ (k : Nat) (cs : Array Value) (ty : TypeId) (fz : Nat × Nat), W.heap[k]? = some (.cells cs ty fz) → ty ≠ 5 → ty ≠ 89 → W'.heap[k]? = some (.cells cs ty fz)
theorem Kp.below {W W' : World} (hb : Below W.heap.size W W') : Kp W W' := fun k cs ty fz h _ _ => (hb.block k (blk_lt h)).trans h
theorem Kp.trans {W W1 W2 : World} (h : Kp W W1) (g : Kp W1 W2) : Kp W W2 := fun k cs ty fz hk a b => g k cs ty fz (h k cs ty fz hk a b) a b
theorem isb_block {W : World} {b : Nat} {l : List Value} (h : Lib.IsBuilder 89 5 b b l W) : ∃ cs, W.heap[b]? = some (.cells cs 89 (0, 0)) := by
  rcases h with ⟨_, v, hb, _⟩ | ⟨_, v, hb, _⟩
  · exact ⟨_, hb⟩
  · exact ⟨_, hb⟩
theorem Kp.others {W W' : World} {b : Nat} {l : List Value} (h : Lib.IsBuilder 89 5 b b l W) (hk : Lib.OthersKept 5 (some b) W W') : Kp W W' := by
  obtain ⟨cb, hb⟩ := isb_block h
  intro k cs ty fz hx h1 h2
  refine hk k _ hx ?_ ?_
  · intro e
    injection e with e
    subst e
    rw [hx] at hb
    injection hb with hb
    injection hb with _ hb
    exact h2 hb
  · intro c fz' e
    injection e with _ e
    exact h1 e
structure TP (w00 : World) (b : Nat) (l : List UInt8) (W : World) : Prop where
  bld : Lib.IsBuilder 89 5 b b (Lib.byteCells l) W
  le : w00.heap.size ≤ b
  be : Below w00.heap.size w00 W
section
variable {w00 W W' : World} {b : Nat} {l : List UInt8}
theorem TP.blt (h : TP w00 b l W) : b < W.heap.size := by rcases h.bld with x | x <;> exact x.lt
theorem TP.on (h : TP w00 b l W) (hb : Below W.heap.size W W') : TP w00 b l W' := ⟨isb_on h.bld hb, h.le, h.be.trans (mono hb h.be.size)⟩
theorem TP.text (h : TP w00 b l W) (d : List UInt8) (hl : l.length + d.length ≤ 1000000000) :
    Calls Tryd.prog 51 #[.pointer (some ⟨b, 0, none⟩), .string ⟨d.toArray⟩] W fun e W' => (∃ v, e = .returned (.tuple #[.int .i64 v, .nilIface])) ∧ TP w00 b (l ++ d) W' ∧ Kp W W' := by
  have hs : (⟨d.toArray⟩ : ByteArray).size = d.length := by simp [← ByteArray.size_data]
  refine (Bld.text b b _ _ W h.bld (by rw [Lib.byteCells_length, hs]; omega) (Nat.le_of_lt h.blt)).mono ?_
  rintro e W' ⟨rfl, h1, h2, h3⟩
  exact ⟨⟨_, rfl⟩, ⟨by rw [Lib.byteCells_append]; simpa [Lib.strCells, Lib.byteCells] using h1, h.le, h.be.trans (mono h2 h.le)⟩, Kp.others h.bld h3⟩
theorem TP.text2 (h : TP w00 b l W) (s : ByteArray) (d : List UInt8) (hs : s = ⟨d.toArray⟩) (hl : l.length + d.length ≤ 1000000000) :
    Calls Tryd.prog 51 #[.pointer (some ⟨b, 0, none⟩), .string s] W fun e W' => (∃ v, e = .returned (.tuple #[.int .i64 v, .nilIface])) ∧ TP w00 b (l ++ d) W' ∧ Kp W W' := hs ▸ h.text d hl
theorem TP.byte (h : TP w00 b l W) (c : UInt8) (x : Int) (hx : x = (c.toNat : Int)) (hl : l.length ≤ 1000000000) :
    Calls Tryd.prog 53 #[.pointer (some ⟨b, 0, none⟩), .int .u8 x] W fun e W' => e = .returned .nilIface ∧ TP w00 b (l ++ [c]) W' ∧ Kp W W' := by
  subst hx
  refine (Bld.byte b b _ _ W h.bld (by rw [Lib.byteCells_length]; omega) (Nat.le_of_lt h.blt)).mono ?_
  rintro e W' ⟨rfl, h1, h2, h3⟩
  exact ⟨rfl, ⟨by rw [Lib.byteCells_append]; exact h1, h.le, h.be.trans (mono h2 h.le)⟩, Kp.others h.bld h3⟩
theorem TP.num (h : TP w00 b l W) (n : Int) (h0 : -9223372036854775808 ≤ n) (h1 : n ≤ 9223372036854775807) (hp : Pow w00) :
    Calls Tryd.prog 52 #[.int .i64 n] W fun e W' => e = .returned (.string ⟨(Lib.itoa n).toArray⟩) ∧ TP w00 b l W' ∧ Kp W W' := by
  refine (itoa_any n h0 h1 W (hp.on h.be)).mono ?_
  rintro e W' ⟨rfl, hb⟩
  exact ⟨rfl, h.on hb, Kp.below hb⟩
theorem TP.len (h : TP w00 b l W) : Calls Tryd.prog 54 #[.pointer (some ⟨b, 0, none⟩)] W fun e W' => e = .returned (.int .i64 (l.length : Int)) ∧ W' = W := by
  have := Tryd.Builder_Len b b _ W h.bld
  rw [Lib.byteCells_length] at this
  exact this
theorem TP.string (h : TP w00 b l W) : Calls Tryd.prog 55 #[.pointer (some ⟨b, 0, none⟩)] W fun e W' => e = .returned (.string ⟨l.toArray⟩) ∧ Below w00.heap.size w00 W' := by
  refine (Tryd.Builder_String_any b b l W h.bld (Nat.le_of_lt h.blt)).mono ?_
  rintro e W' ⟨rfl, hb⟩
  exact ⟨rfl, h.be.trans (mono hb h.le)⟩
theorem TP.start {W1 : World} (hB : Below w00.heap.size w00 W) (hg : b = W.heap.size) (hbb : W1.heap[b]? = some (.cells #[.pointer none, .slice none 0 0] 89 (0, 0))) (hb : Below W.heap.size W W1) : TP w00 b [] W1 :=
  ⟨.inl ⟨Nat.le_refl _, .slice none 0 0, hbb, World.ownsRow_nil _ _ _ _, by simp [Value.ownBlock]⟩, hg ▸ hB.size, hB.trans (mono hb hB.size)⟩
end
def Good (st : Int) (l : List S49) : Prop := ∀ j, j < l.length → ((nd l j).f1.length = 0 ∧ (nd l j).f0 < st) ∨ ((nd l j).f0 = 0 ∧ ((nd l j).f1.length : Int) = st ∧ ∀ q, q < (nd l j).f1.length → 0 ≤ rd (nd l j).f1 q ∧ rd (nd l j).f1 q < j)
theorem chkTo_good (st : Int) (l : List S49) : ∀ i lv, chkTo st l i = some lv → ∀ j, j < i → ((nd l j).f1.length = 0 ∧ (nd l j).f0 < st) ∨ ((nd l j).f0 = 0 ∧ ((nd l j).f1.length : Int) = st ∧ ∀ q, q < (nd l j).f1.length → 0 ≤ rd (nd l j).f1 q ∧ rd (nd l j).f1 q < j)
  | 0, lv, h => fun j hj => by omega
  | i + 1, lv, h => by
    unfold chkTo at h
    rcases hc : chkTo st l i with _ | lv0
    · rw [hc] at h
      cases h
    · rw [hc] at h
      have h0 := chkTo_good st l i lv0 hc
      simp only [Option.bind_some] at h
      intro j hj
      by_cases e : j < i
      · exact h0 j e
      · have : j = i := by omega
        subst this
        split at h
        · rename_i c
          split at h
          · cases h
          · exact .inl ⟨c, by omega⟩
        · rename_i c
          split at h
          · rename_i c2
            exact .inr ⟨c2.1, c2.2.1, fun q hq => ⟨(c2.2.2 q (Nat.zero_le _) hq).1, (c2.2.2 q (Nat.zero_le _) hq).2.1⟩⟩
          · cases h
structure Fine (st n : Int) (l : List S49) (rt : Int) : Prop where
  hst : 1 ≤ st ∧ st ≤ 256
  hn : 0 ≤ n ∧ n ≤ 16
  hl : 1 ≤ l.length ∧ l.length ≤ 65536
  hrt : 0 ≤ rt ∧ rt < l.length
  good : Good st l
theorem chk_zero {st n rt : Int} {l : List S49} (h : chk st n l rt = 0) : Fine st n l rt := by
  unfold chk at h
  split at h
  · cases h
  · rename_i c
    unfold chkEnd at h
    rcases hc : chkTo st l l.length with _ | lv
    · rw [hc] at h
      cases h
    · exact ⟨by omega, by omega, by omega, by omega, chkTo_good st l _ lv hc⟩
end Go.Proofs.YtbnonnogkgbpiaaDoor.TreeText
end
section
namespace Go.Proofs.YtbnonnogkgbpiaaDoor.TreeText
open Go Go.RowKit Go.Proofs.YtbnonnogkgbpiaaDoorW.PrintWords Go.Proofs.YtbnonnogkgbpiaaDoorW.PrintLast Go.Proofs.YtbnonnogkgbpiaaDoorW.PrintMore Go.Proofs.YtbnonnogkgbpiaaDoor.PT Go.Proofs.YtbnonnogkgbpiaaDoor.TreePlain
set_option linter.unusedVariables false
set_option linter.unusedSimpArgs false
theorem four {W : World} {t ty : Nat} {v0 v1 v2 v3 : Value} (h : W.heap[t]? = some (.cells #[v0, v1, v2, v3] ty (0, 0))) : W.cell? ⟨t, 0, none⟩ = some v0 ∧ W.cell? ⟨t, 1, none⟩ = some v1 ∧ W.cell? ⟨t, 2, none⟩ = some v2 ∧ W.cell? ⟨t, 3, none⟩ = some v3 :=
  ⟨(blk_cell h 0).trans rfl, (blk_cell h 1).trans rfl, (blk_cell h 2).trans rfl, (blk_cell h 3).trans rfl⟩
theorem Kp.box {W W' : World} (h : Kp W W') {k : Nat} {cs : Array Value} {ty : TypeId} {fz : Nat × Nat} (hx : W.heap[k]? = some (.cells cs ty fz)) (h1 : ty ≠ 5) (h2 : ty ≠ 89) : W'.heap[k]? = some (.cells cs ty fz) := h k cs ty fz hx h1 h2
theorem lit4 {W : World} {g : Nat} {a b c d : Int} (h : W.heap[g]? = some (.cells #[.int .i64 a, .int .i64 b, .int .i64 c, .int .i64 d] 3 (0, 0))) (x : Int) (h0 : 0 ≤ x) (h1 : x < 4) : W.cell? ⟨g, x.toNat, none⟩ = some (.int .i64 (rd [a, b, c, d] x)) := by
  obtain ⟨c0, c1, c2, c3⟩ := four h
  rcases (show x = 0 ∨ x = 1 ∨ x = 2 ∨ x = 3 by omega) with rfl | rfl | rfl | rfl
  · exact c0
  · exact c1
  · exact c2
  · exact c3
theorem spaced_len (ks : List Int) (h : ∀ x ∈ ks, -9223372036854775808 ≤ x ∧ x ≤ 9223372036854775807) : ∀ j, j ≤ ks.length → (spacedT ks j).length ≤ 21 * j
  | 0, _ => Nat.le_refl _
  | j + 1, hj => by
    have ih := spaced_len ks h j (by omega)
    have hm : rd ks j ∈ ks := by
      unfold rd
      rw [Int.toNat_natCast, List.getD_eq_getElem?_getD, List.getElem?_eq_getElem (show j < ks.length by omega)]
      exact List.getElem_mem _
    have := itoa_len _ (h _ hm).1 (h _ hm).2
    simp only [spacedT, List.length_append, List.length_cons]
    omega
set_option maxHeartbeats 16000000 in
set_option maxRecDepth 100000 in
theorem print_ok (k : Nat) (st n : Int) (A : Option Addr) (c : Nat) (l : List S49) (rt : Int) (w : World) (hp : Pow w) (hr : Kd.C k49 w A l.length l) (hc : l.length ≤ c) (h : tree_Check.f k st n l rt = some 0) (hF : Fine st n l rt) (hB0 : Bytes l) :
    Calls Tryd.prog 17 #[.agg #[.int .i64 st, .int .i64 n, .slice A l.length c, .int .i64 rt]] w fun e w' => e = .returned (.tuple #[.string ⟨(printP st n l rt).1.toArray⟩, .int .i64 (printP st n l rt).2]) ∧ Below w.heap.size w w' := by
  have hu := Tryd.underlying24
  have hu2 := Tryd.underlying49
  have CK := Aside0.mk (fun (W : World) (hW : Below w.heap.size w W) => tree_Check.calls k st n A c l rt 0 W (Kd.C_below hr hW) hc h)
  have HB := Aside0.mk (Below.refl w.heap.size w)
  have HP := Aside0.mk hp
  have HR := Aside0.mk hr
  have HC := Aside0.mk hc
  have HF := Aside0.mk hF
  have HY := Aside0.mk hB0
  clear hr hc h hF hp hB0
  go_enter Tryd.func17, Tryd.ntmps17
  go_wp2_with (first
    | ((with_reducible refine gate_dst (N := 1) rfl ?_); refine box_event ?hg (N := 1) ?hd (cs := #[.int .i64 st, .int .i64 n, .slice A l.length c, .int .i64 rt]) (t := 24) ?hr ?_; (case hd => rfl); (case hg => rfl); (case hr => first | (go_simp; done) | (go_simp; rfl)); intro t hg W9 hbox hb; have n_ := below_step HB.out hb; clear HB; have HB := Aside0.mk n_; have BX := Aside0.mk hbox; obtain ⟨gc0, gc1, gc2, gc3⟩ := four hbox; clear n_ hg hbox hb)
    | (go_at_call 22; (with_reducible refine (CK.out _ HB.out).mono ?_); rintro e_ W9 ⟨rfl, hb⟩; have n_ := below_step HB.out hb; have m_ := blk_below BX.out hb; clear CK HB BX gc0 gc1 gc2 gc3; have HB := Aside0.mk n_; have BX := Aside0.mk m_; obtain ⟨gc0, gc1, gc2, gc3⟩ := four m_; clear n_ m_ hb)
    | ((with_reducible refine gate_dst (N := 5) rfl ?_); refine box_event ?hg5 (N := 5) ?hd5 (cs := #[.pointer none, .slice none 0 0]) (t := 89) ?hr5 ?_; (case hd5 => rfl); (case hg5 => rfl); (case hr5 => first | (go_simp; done) | (go_simp; rfl)); intro b hg W9 hbox hb; have F := Aside0.mk (TP.start HB.out hg hbox hb); have m_ := blk_below BX.out hb; clear HB BX gc0 gc1 gc2 gc3 hg hbox hb; have BX := Aside0.mk m_; obtain ⟨gc0, gc1, gc2, gc3⟩ := four m_; clear m_)
    | (go_at_call 51; have h_ := TP.text F.out [116, 114, 101, 101] (by simp); with_reducible refine h_.mono ?_; clear h_; rintro e_ W9 ⟨⟨v_, rfl⟩, hF_, hk_⟩; have m_ := Kp.box hk_ BX.out (by decide) (by decide); clear F BX gc0 gc1 gc2 gc3 hk_; have F := Aside0.mk hF_; have BX := Aside0.mk m_; obtain ⟨gc0, gc1, gc2, gc3⟩ := four m_; clear hF_ m_))
  have G0 := Aside0.mk (heap_alloc_new W9 (.cells #[.int .i64 st, .int .i64 n, .int .i64 (l.length : Int), .int .i64 rt] 3))
  have F0 := Aside0.mk (F.out.on (below_alloc (Below.refl _ W9) (.cells #[.int .i64 st, .int .i64 n, .int .i64 (l.length : Int), .int .i64 rt] 3)))
  have B0 := Aside0.mk (blk_below BX.out (below_alloc (Below.refl _ W9) (.cells #[.int .i64 st, .int .i64 n, .int .i64 (l.length : Int), .int .i64 rt] 3)))
  clear F BX gc0 gc1 gc2 gc3
  generalize hg0 : W9.heap.size = g at *
  go_loopg [7, 29] 4 (fun g_ s7 s29 wr => ∃ (x : Int), s29 = .int .i64 x ∧ Aside0 (0 ≤ x ∧ (g_ : Int) = 4 - x) ∧ Aside0 (TP w b ([116, 114, 101, 101] ++ spacedT [st, n, (l.length : Int), rt] x.toNat) wr) ∧ Aside0 (wr.heap[t]? = some (.cells #[.int .i64 st, .int .i64 n, .slice A l.length c, .int .i64 rt] 24 (0, 0))) ∧ Aside0 (wr.heap[g]? = some (.cells #[.int .i64 st, .int .i64 n, .int .i64 (l.length : Int), .int .i64 rt] 3 (0, 0))))
  case atStart => exact ⟨0, rfl, ⟨by omega, by omega⟩, F0, B0, G0⟩
  case round =>
    obtain ⟨x, rfl, HX, F, BX, G⟩ := hrel
    clear F0 B0 G0
    have hall : ∀ v ∈ [st, n, (l.length : Int), rt], -9223372036854775808 ≤ v ∧ v ≤ 9223372036854775807 := by
      have hf := HF.out
      have f1 := hf.hst
      have f2 := hf.hn
      have f3 := hf.hl
      have f4 := hf.hrt
      intro v hv
      simp only [List.mem_cons, List.not_mem_nil, or_false] at hv
      rcases hv with rfl | rfl | rfl | rfl <;> omega
    have HV := Aside0.mk hall
    clear hall
    by_cases q : x < 4
    · have p0 : 0 ≤ x := HX.out.1
      have k0_ := lit4 G.out x p0 q
      have w1_ : wrap64 (x + 1) = x + 1 := by unfold wrap64; omega
      have hm : rd [st, n, (l.length : Int), rt] x ∈ [st, n, (l.length : Int), rt] := by
        unfold rd
        rw [List.getD_eq_getElem?_getD, List.getElem?_eq_getElem (show x.toNat < 4 by omega)]
        exact List.getElem_mem _
      have hv := HV.out _ hm
      have hsp : spacedT [st, n, (l.length : Int), rt] (x + 1).toNat = spacedT [st, n, (l.length : Int), rt] x.toNat ++ (32 :: Lib.itoa (rd [st, n, (l.length : Int), rt] x)) := by
        rw [show (x + 1).toNat = x.toNat + 1 by omega]
        show _ ++ (32 :: Lib.itoa (rd _ (x.toNat : Int))) = _
        rw [show ((x.toNat : Nat) : Int) = x by omega]
      have hlen := spaced_len [st, n, (l.length : Int), rt] HV.out x.toNat (show x.toNat ≤ 4 by omega)
      have HSP := Aside0.mk hsp
      have HLEN := Aside0.mk hlen
      have HVV := Aside0.mk hv
      clear hm hv hsp hlen
      generalize spacedT [st, n, (l.length : Int), rt] x.toNat = sp at *
      generalize rd [st, n, (l.length : Int), rt] x = v at *
      have hno := eq_false (show ¬ (9223372036854775807 < 1 + (Lib.itoa v).length) by have := itoa_len v HVV.out.1 HVV.out.2; omega)
      go_wp2_with (first
        | (go_at_call 52; (with_reducible refine (TP.num F.out v HVV.out.1 HVV.out.2 HP.out).mono ?_); rintro e_ W9 ⟨rfl, hF_, hk_⟩; have m_ := Kp.box hk_ BX.out (by decide) (by decide); have G_ := Kp.box hk_ G.out (by decide) (by decide); clear F BX G hk_ k0_; have F := Aside0.mk hF_; have BX := Aside0.mk m_; have G := Aside0.mk G_; clear hF_ m_ G_)
        | (go_at_call 51; have h_ := TP.text2 F.out _ ([32] ++ Lib.itoa v) (cat_eq [32] _) (by have := itoa_len v HVV.out.1 HVV.out.2; have := HLEN.out; have := HX.out; simp; omega); with_reducible refine h_.mono ?_; clear h_; rintro e_ W9 ⟨⟨v_, rfl⟩, hF_, hk_⟩; have m_ := Kp.box hk_ BX.out (by decide) (by decide); have G_ := Kp.box hk_ G.out (by decide) (by decide); clear F BX G hk_; have F := Aside0.mk hF_; have BX := Aside0.mk m_; have G := Aside0.mk G_; clear hF_ m_ G_))
      go_roundg (4 - (x + 1).toNat)
      case measure => go_light; have := HX.out; omega
      case rel =>
        go_light
        exact ⟨x + 1, by simp [w1_], ⟨by omega, by have := HX.out; omega⟩, ⟨by rw [HSP.out]; simpa using F.out⟩, BX, G⟩
    · have hx4 : x = 4 := by have := HX.out; omega
      subst hx4
      --MAIN
      have hsp := spaced_len [st, n, (l.length : Int), rt] HV.out 4 (Nat.le_refl _)
      have HSP := Aside0.mk hsp
      clear hsp HV G
      have F1 := Aside0.mk (show TP w b ([116, 114, 101, 101] ++ spacedT [st, n, (l.length : Int), rt] 4) wr from F.out)
      clear F
      have F := F1
      clear F1
      obtain ⟨gc0, gc1, gc2, gc3⟩ := four BX.out
      go_wp2_with (first
        | (go_at_call 51; have h_ := TP.text2 F.out _ ([10]) (rfl) (by have := HSP.out; simp; omega); with_reducible refine h_.mono ?_; clear h_; rintro e_ W9 ⟨⟨v_, rfl⟩, hF_, hk_⟩; have m_ := Kp.box hk_ BX.out (by decide) (by decide); clear F BX hk_ gc0 gc1 gc2 gc3; have F := Aside0.mk hF_; have BX := Aside0.mk m_; obtain ⟨gc0, gc1, gc2, gc3⟩ := four m_; clear hF_ m_))
      have hhead : headT st n (l.length : Int) rt = [116, 114, 101, 101] ++ spacedT [st, n, (l.length : Int), rt] 4 ++ [10] := by
        unfold headT
        simp only [List.append_assoc]
      have F1 := Aside0.mk (show TP w b (headT st n (l.length : Int) rt) W9 from hhead ▸ F.out)
      have HH := Aside0.mk (show (headT st n (l.length : Int) rt).length ≤ 1048576 by rw [hhead]; have := HSP.out; simp only [List.length_append, List.length_cons, List.length_nil]; omega)
      clear F hhead HSP gc0 gc1 gc2 gc3
      generalize hRR : restT l l.length 0 (headT st n (l.length : Int) rt) = RR
      have hres : printP st n l rt = outT RR := by
        unfold printP
        rw [hRR]
      have HRES := Aside0.mk hres
      have HRR := Aside0.mk hRR
      clear hres hRR
      generalize headT st n (l.length : Int) rt = H0 at *
      go_loopg [42] l.length (fun g_ s42 wq => ∃ (x : Int) (T : List UInt8), s42 = .int .i64 x ∧ Aside0 (0 ≤ x ∧ (g_ : Int) = l.length - x) ∧ Aside0 (restT l g_ x.toNat T = RR) ∧ Aside0 (T.length ≤ 1048576) ∧ Aside0 (TP w b T wq) ∧ Aside0 (wq.heap[t]? = some (.cells #[.int .i64 st, .int .i64 n, .slice A l.length c, .int .i64 rt] 24 (0, 0))))
      case atStart => exact ⟨0, _, rfl, ⟨by omega, by omega⟩, HRR, HH, F1, BX⟩
      case round =>
        obtain ⟨x, T, rfl, HX, HRR, HT, F, BX⟩ := hrel
        clear F1 HH
        by_cases q : x < (l.length : Int)
        case neg =>
          have hg0 : gk = 0 := by have := HX.out; omega
          subst hg0
          have hTR : some T = RR := HRR.out
          go_wp2_with (first
            | (go_at_call 55; (with_reducible refine (TP.string F.out).mono ?_); rintro e_ W9 ⟨rfl, hb_⟩; have HE := Aside0.mk hb_; clear hb_ F BX))
          go_ret2
          exact ⟨by rw [HRES.out, ← hTR]; rfl, HE.out⟩
        case pos =>
          have p0 : 0 ≤ x := HX.out.1
          have w1_ : wrap64 (x + 1) = x + 1 := by have := HF.out.hl; unfold wrap64; omega
          obtain ⟨d, rfl⟩ : ∃ d, gk = d + 1 := ⟨gk - 1, by have := HX.out; omega⟩
          obtain ⟨ad, A1, c1, rfl, k0w, k1w, hc1, hK1⟩ := at_T49 HR.out x p0 q
          have k0_ := pw_cell_below F.out.be k0w
          have k1_ := pw_cell_below F.out.be k1w
          have hK0 : Kd.C (Kd.int .i64) w A1 (rd_T49 l x).f1.length (rd_T49 l x).f1 := hK1
          clear k0w k1w
          have HK := Aside0.mk hK0
          have hnd : rd_T49 l x = nd l x.toNat := rfl
          have hgood := HF.out.good x.toNat (by omega)
          have hby := nd_bytes HY.out x.toNat
          have hst := HF.out.hst
          have hll := HF.out.hl
          have hRR2 : (if 1048576 < (T ++ lineT (nd l x.toNat)).length then none else restT l d (x.toNat + 1) (T ++ lineT (nd l x.toNat))) = RR := HRR.out
          rw [← hnd] at hgood hby hRR2
          have hkl : (rd_T49 l x).f1.length ≤ 256 := by rcases hgood with h | h <;> omega
          have hkv : ∀ q, q < (rd_T49 l x).f1.length → -9223372036854775808 ≤ rd (rd_T49 l x).f1 q ∧ rd (rd_T49 l x).f1 q ≤ 9223372036854775807 := fun q hq => by
            rcases hgood with h | h
            · omega
            · have := h.2.2 q hq
              omega
          generalize rd_T49 l x = X at *
          obtain ⟨s, ks⟩ := X
          dsimp only at *
          have HR2 := Aside0.mk hRR2
          have HG := Aside0.mk (And.intro hby (And.intro hkl hkv))
          have KL := Aside0.mk (fun j hj => kidsT_len ks hkv j hj)
          clear hK1 hK0 hnd hgood hby hst hll hRR2 hkl hkv hc1 HRR
          obtain ⟨gc0, gc1, gc2, gc3⟩ := four BX.out
          have arm : True := trivial
          by_cases hlf : ks.length = 0
          · have l0_ : ((ks.length : Int) == 0) = true := by simp [hlf]
            have ws_ : wrap64 s = s := by have := HG.out; unfold wrap64; omega
            have hno := eq_false (show ¬ (9223372036854775807 < 2 + (Lib.itoa s).length) by have h3 := HG.out; have := itoa_len s (by omega) (by omega); omega)
            go_upto_region 17 with (first
              | ((with_reducible refine gate_dst (N := 9) rfl ?_); refine box_event ?hg9 (N := 9) ?hd9 (cs := #[.int .u8 0, .slice none 0 0]) (t := 49) ?hr9 ?_; (case hd9 => rfl); (case hg9 => rfl); (case hr9 => first | (go_simp; done) | (go_simp; rfl)); intro g9 hg9 W8 hbox hb; have NB := Aside0.mk hbox; have hb9 := Aside0.mk hb; have y0_ := (blk_cell hbox 0).trans (show _ = some (Value.int .u8 0) from rfl); have y1_ := (blk_cell hbox 1).trans (show _ = some (Value.slice none 0 0) from rfl); have z0_ := blk_frozen hbox 0; have z1_ := blk_frozen hbox 1; have GE := Aside0.mk hg9; clear hbox hb hg9 k0_ k1_ gc0 gc1 gc2 gc3)
              | ((with_reducible refine gate_store (t := 49) (p := 9) rfl ?_); refine store_event (t := 49) (p := 9) (v := ?vo_) (w1 := (W8.setCell ⟨g9, 0, none⟩ (.int .u8 s)).setCell ⟨g9, 1, none⟩ (.slice A1 ks.length c1)) ?hgs ?hos ?hns ?hrs ?_; (case hos => rfl); (case hgs => rfl); (case hns => rfl); (case hrs => first | (go_simp; done) | (go_simp; rfl)); rintro W7 rfl; have hb_ : Below wr.heap.size wr ((W8.setCell ⟨g9, 0, none⟩ (.int .u8 s)).setCell ⟨g9, 1, none⟩ (.slice A1 ks.length c1)) := below_set (below_set hb9.out (Nat.le_of_eq GE.out.symm)) (Nat.le_of_eq GE.out.symm); have nb_ := blk_put (blk_put NB.out 0 (.int .u8 s) rfl) 1 (.slice A1 ks.length c1) rfl; have F_ := Aside0.mk (F.out.on hb_); have m_ := Aside0.mk (blk_below BX.out hb_); clear y0_ y1_ z0_ z1_ F BX NB hb9 GE; generalize (W8.setCell ⟨g9, 0, none⟩ (.int .u8 s)).setCell ⟨g9, 1, none⟩ (.slice A1 ks.length c1) = W7 at *; have F := F_; have BX := m_; have NB := Aside0.mk nb_; have j0_ := (blk_cell nb_ 0).trans (show _ = some (Value.int .u8 s) from rfl); have j1_ := (blk_cell nb_ 1).trans (show _ = some (Value.slice A1 ks.length c1) from rfl); clear F_ m_ nb_ hb_)
              | (go_at_call 52; (with_reducible refine (TP.num F.out (s) (by have := HG.out; omega) (by have := HG.out; omega) HP.out).mono ?_); rintro e_ W9 ⟨rfl, hF_, hk_⟩; have m_ := Kp.box hk_ BX.out (by decide) (by decide); have n_ := Kp.box hk_ NB.out (by decide) (by decide); clear F BX NB hk_ j0_ j1_; have F := Aside0.mk hF_; have BX := Aside0.mk m_; have NB := Aside0.mk n_; have j0_ := (blk_cell n_ 0).trans (show _ = some (Value.int .u8 s) from rfl); have j1_ := (blk_cell n_ 1).trans (show _ = some (Value.slice A1 ks.length c1) from rfl); clear hF_ m_ n_)
              | (go_at_call 51; have h_ := TP.text2 F.out _ ([61, 32] ++ Lib.itoa s) (cat_eq [61, 32] _) (by have := HT.out; have h3 := HG.out; have := itoa_len s (by omega) (by omega); simp only [List.length_append, List.length_cons, List.length_nil]; omega); with_reducible refine h_.mono ?_; clear h_; rintro e_ W9 ⟨⟨v_, rfl⟩, hF_, hk_⟩; have m_ := Kp.box hk_ BX.out (by decide) (by decide); have n_ := Kp.box hk_ NB.out (by decide) (by decide); clear F BX NB hk_ j0_ j1_; have F := Aside0.mk hF_; have BX := Aside0.mk m_; have NB := Aside0.mk n_; have j0_ := (blk_cell n_ 0).trans (show _ = some (Value.int .u8 s) from rfl); have j1_ := (blk_cell n_ 1).trans (show _ = some (Value.slice A1 ks.length c1) from rfl); clear hF_ m_ n_))
            go_wp2
            go_loopg [59] ks.length (fun g2_ s59 wx => ∃ (y : Int), s59 = .int .i64 y ∧ Aside0 (0 ≤ y ∧ (g2_ : Int) = ks.length - y) ∧ Aside0 (TP w b (T ++ ([61, 32] ++ Lib.itoa s) ++ kidsT ks y.toNat) wx) ∧ Aside0 (wx.heap[t]? = some (.cells #[.int .i64 st, .int .i64 n, .slice (some ad) l.length c, .int .i64 rt] 24 (0, 0))))
            case atStart => exact ⟨0, rfl, ⟨by omega, by omega⟩, ⟨by rw [show kidsT ks (0 : Int).toNat = [] from rfl, List.append_nil]; exact F.out⟩, BX⟩
            case round =>
              obtain ⟨y, rfl, HY2, F, BX⟩ := hrel
              clear NB j0_ j1_
              by_cases q2 : y < (ks.length : Int)
              case pos =>
                exfalso
                have := HY2.out
                omega
              case neg =>
                have hy : y.toNat = ks.length := by have := HY2.out; omega
                rw [hy] at F
                have hline : T ++ lineT ⟨s, ks⟩ = T ++ ([61, 32] ++ Lib.itoa s) ++ kidsT ks ks.length ++ [10] := by
                  unfold lineT
                  dsimp only
                  rw [if_pos hlf]
                  simp only [List.append_assoc, List.nil_append]
                have hlen2 : (T ++ ([61, 32] ++ Lib.itoa s) ++ kidsT ks ks.length).length ≤ 2000000 := by
                  have h1 := KL.out ks.length (Nat.le_refl _)
                  have h2 := HT.out
                  have h3 := HG.out
                  (try (have h4 := itoa_len s (by omega) (by omega)))
                  simp only [List.length_append, List.length_cons, List.length_nil]
                  omega
                have HL2 := Aside0.mk hlen2
                rw [hline] at HR2
                clear hline hlen2
                obtain ⟨N, hN⟩ : ∃ N : Int, N = ((T ++ ([61, 32] ++ Lib.itoa s) ++ kidsT ks ks.length ++ [10]).length : Int) := ⟨_, rfl⟩
                have HN := Aside0.mk hN
                by_cases big : 1048576 < (T ++ ([61, 32] ++ Lib.itoa s) ++ kidsT ks ks.length ++ [10]).length
                · have big_ : N > 1048576 := by omega
                  have hRN : none = RR := by
                    have h := HR2.out
                    rw [if_pos big] at h
                    exact h
                  have HRN := Aside0.mk hRN
                  clear hRN big HR2 hN
                  go_wp2_with (first
                    | (go_at_call 53; have h_ := TP.byte F.out 10 10 rfl (by have := HL2.out; omega); with_reducible refine h_.mono ?_; clear h_; rintro e_ W9 ⟨rfl, hF_, hk_⟩; have m_ := Kp.box hk_ BX.out (by decide) (by decide); clear F BX hk_; have F := Aside0.mk hF_; have BX := Aside0.mk m_; clear hF_ m_)
                    | (go_at_call 54; have h_ := TP.len F.out; rw [← HN.out] at h_; with_reducible refine h_.mono ?_; clear h_; rintro e_ W9 ⟨rfl, rfl⟩))
                  go_ret2
                  exact ⟨by rw [HRES.out, ← HRN.out]; rfl, F.out.be⟩
                · have big_ : ¬ N > 1048576 := by omega
                  have HR3 : Aside0 (restT l d (x.toNat + 1) (T ++ ([61, 32] ++ Lib.itoa s) ++ kidsT ks ks.length ++ [10]) = RR) := ⟨by
                    have h := HR2.out
                    rw [if_neg big] at h
                    exact h⟩
                  have HT3 := Aside0.mk (show (T ++ ([61, 32] ++ Lib.itoa s) ++ kidsT ks ks.length ++ [10]).length ≤ 1048576 by omega)
                  clear big HR2 hN
                  go_wp2_with (first
                    | (go_at_call 53; have h_ := TP.byte F.out 10 10 rfl (by have := HL2.out; omega); with_reducible refine h_.mono ?_; clear h_; rintro e_ W9 ⟨rfl, hF_, hk_⟩; have m_ := Kp.box hk_ BX.out (by decide) (by decide); clear F BX hk_; have F := Aside0.mk hF_; have BX := Aside0.mk m_; clear hF_ m_)
                    | (go_at_call 54; have h_ := TP.len F.out; rw [← HN.out] at h_; with_reducible refine h_.mono ?_; clear h_; rintro e_ W9 ⟨rfl, rfl⟩))
                  go_roundg d
                  case measure => go_light; omega
                  case rel =>
                    go_light
                    exact ⟨x + 1, _, by simp [w1_], ⟨by omega, by have := HX.out; omega⟩, ⟨by rw [show (x + 1).toNat = x.toNat + 1 by omega]; exact HR3.out⟩, HT3, F, BX⟩
          · have l0_ : ((ks.length : Int) == 0) = false := by simp [hlf]
            go_upto_region 17 with (first
              | ((with_reducible refine gate_dst (N := 9) rfl ?_); refine box_event ?hg9 (N := 9) ?hd9 (cs := #[.int .u8 0, .slice none 0 0]) (t := 49) ?hr9 ?_; (case hd9 => rfl); (case hg9 => rfl); (case hr9 => first | (go_simp; done) | (go_simp; rfl)); intro g9 hg9 W8 hbox hb; have NB := Aside0.mk hbox; have hb9 := Aside0.mk hb; have y0_ := (blk_cell hbox 0).trans (show _ = some (Value.int .u8 0) from rfl); have y1_ := (blk_cell hbox 1).trans (show _ = some (Value.slice none 0 0) from rfl); have z0_ := blk_frozen hbox 0; have z1_ := blk_frozen hbox 1; have GE := Aside0.mk hg9; clear hbox hb hg9 k0_ k1_ gc0 gc1 gc2 gc3)
              | ((with_reducible refine gate_store (t := 49) (p := 9) rfl ?_); refine store_event (t := 49) (p := 9) (v := ?vo_) (w1 := (W8.setCell ⟨g9, 0, none⟩ (.int .u8 s)).setCell ⟨g9, 1, none⟩ (.slice A1 ks.length c1)) ?hgs ?hos ?hns ?hrs ?_; (case hos => rfl); (case hgs => rfl); (case hns => rfl); (case hrs => first | (go_simp; done) | (go_simp; rfl)); rintro W7 rfl; have hb_ : Below wr.heap.size wr ((W8.setCell ⟨g9, 0, none⟩ (.int .u8 s)).setCell ⟨g9, 1, none⟩ (.slice A1 ks.length c1)) := below_set (below_set hb9.out (Nat.le_of_eq GE.out.symm)) (Nat.le_of_eq GE.out.symm); have nb_ := blk_put (blk_put NB.out 0 (.int .u8 s) rfl) 1 (.slice A1 ks.length c1) rfl; have F_ := Aside0.mk (F.out.on hb_); have m_ := Aside0.mk (blk_below BX.out hb_); clear y0_ y1_ z0_ z1_ F BX NB hb9 GE; generalize (W8.setCell ⟨g9, 0, none⟩ (.int .u8 s)).setCell ⟨g9, 1, none⟩ (.slice A1 ks.length c1) = W7 at *; have F := F_; have BX := m_; have NB := Aside0.mk nb_; have j0_ := (blk_cell nb_ 0).trans (show _ = some (Value.int .u8 s) from rfl); have j1_ := (blk_cell nb_ 1).trans (show _ = some (Value.slice A1 ks.length c1) from rfl); clear F_ m_ nb_ hb_))
            go_wp2
            go_loopg [59] ks.length (fun g2_ s59 wx => ∃ (y : Int), s59 = .int .i64 y ∧ Aside0 (0 ≤ y ∧ (g2_ : Int) = ks.length - y) ∧ Aside0 (TP w b (T ++ kidsT ks y.toNat) wx) ∧ Aside0 (wx.heap[t]? = some (.cells #[.int .i64 st, .int .i64 n, .slice (some ad) l.length c, .int .i64 rt] 24 (0, 0))))
            case atStart => exact ⟨0, rfl, ⟨by omega, by omega⟩, ⟨by rw [show kidsT ks (0 : Int).toNat = [] from rfl, List.append_nil]; exact F.out⟩, BX⟩
            case round =>
              obtain ⟨y, rfl, HY2, F, BX⟩ := hrel
              clear NB j0_ j1_
              by_cases q2 : y < (ks.length : Int)
              case pos =>
                have r0 : 0 ≤ y := HY2.out.1
                have w2_ : wrap64 (y + 1) = y + 1 := by have := HG.out; unfold wrap64; omega
                obtain ⟨a1, rfl, v0_⟩ := Kd.at_int (Kd.C_below HK.out F.out.be) y r0 q2
                have hv := HG.out.2.2 y.toNat (by omega)
                rw [show ((y.toNat : Nat) : Int) = y by omega] at hv
                have hkk : kidsT ks (y + 1).toNat = kidsT ks y.toNat ++ ((if 0 < y.toNat then [32] else []) ++ Lib.itoa (rd ks y)) := by
                  rw [show (y + 1).toNat = y.toNat + 1 by omega]
                  show _ ++ (_ ++ Lib.itoa (rd ks (y.toNat : Int))) = _
                  rw [show ((y.toNat : Nat) : Int) = y by omega]
                have hkl := KL.out y.toNat (by omega)
                have HVV := Aside0.mk hv
                have HKK := Aside0.mk hkk
                have HKL := Aside0.mk hkl
                have HLT := Aside0.mk (show y.toNat ≤ 256 by have := HG.out; omega)
                clear hv hkk hkl
                generalize rd ks y = v at *
                generalize kidsT ks y.toNat = kt at *
                by_cases c2 : y > 0
                · have HKK2 : Aside0 (kidsT ks (y + 1).toNat = kt ++ ([32] ++ Lib.itoa v)) := ⟨by rw [HKK.out, if_pos (by omega)]⟩
                  clear HKK
                  go_wp2_with (first
                    | (go_at_call 53; have h_ := TP.byte F.out 32 32 rfl (by have := HT.out; have := HKL.out; have := HLT.out; have h3 := HG.out; (try (have h4 := itoa_len s (by omega) (by omega))); have := itoa_len v HVV.out.1 HVV.out.2; simp only [List.length_append, List.length_cons, List.length_nil]; omega); with_reducible refine h_.mono ?_; clear h_; rintro e_ W9 ⟨rfl, hF_, hk_⟩; have m_ := Kp.box hk_ BX.out (by decide) (by decide); clear F BX hk_; have F := Aside0.mk hF_; have BX := Aside0.mk m_; clear hF_ m_)
                    | (go_at_call 52; (with_reducible refine (TP.num F.out (v) HVV.out.1 HVV.out.2 HP.out).mono ?_); rintro e_ W9 ⟨rfl, hF_, hk_⟩; have m_ := Kp.box hk_ BX.out (by decide) (by decide); clear F BX hk_; have F := Aside0.mk hF_; have BX := Aside0.mk m_; clear hF_ m_)
                    | (go_at_call 51; have h_ := TP.text2 F.out _ (Lib.itoa v) (rfl) (by have := HT.out; have := HKL.out; have := HLT.out; have h3 := HG.out; (try (have h4 := itoa_len s (by omega) (by omega))); have := itoa_len v HVV.out.1 HVV.out.2; simp only [List.length_append, List.length_cons, List.length_nil]; omega); with_reducible refine h_.mono ?_; clear h_; rintro e_ W9 ⟨⟨v_, rfl⟩, hF_, hk_⟩; have m_ := Kp.box hk_ BX.out (by decide) (by decide); clear F BX hk_; have F := Aside0.mk hF_; have BX := Aside0.mk m_; clear hF_ m_))
                  go_roundg (ks.length - (y + 1).toNat)
                  case measure => go_light; have := HY2.out; omega
                  case rel =>
                    go_light
                    exact ⟨y + 1, by simp [w2_], ⟨by omega, by have := HY2.out; omega⟩, ⟨by rw [HKK2.out]; simpa only [List.append_assoc] using F.out⟩, BX⟩
                · have HKK2 : Aside0 (kidsT ks (y + 1).toNat = kt ++ ([] ++ Lib.itoa v)) := ⟨by rw [HKK.out, if_neg (by omega)]⟩
                  clear HKK
                  go_wp2_with (first
                    | (go_at_call 53; have h_ := TP.byte F.out 32 32 rfl (by have := HT.out; have := HKL.out; have := HLT.out; have h3 := HG.out; (try (have h4 := itoa_len s (by omega) (by omega))); have := itoa_len v HVV.out.1 HVV.out.2; simp only [List.length_append, List.length_cons, List.length_nil]; omega); with_reducible refine h_.mono ?_; clear h_; rintro e_ W9 ⟨rfl, hF_, hk_⟩; have m_ := Kp.box hk_ BX.out (by decide) (by decide); clear F BX hk_; have F := Aside0.mk hF_; have BX := Aside0.mk m_; clear hF_ m_)
                    | (go_at_call 52; (with_reducible refine (TP.num F.out (v) HVV.out.1 HVV.out.2 HP.out).mono ?_); rintro e_ W9 ⟨rfl, hF_, hk_⟩; have m_ := Kp.box hk_ BX.out (by decide) (by decide); clear F BX hk_; have F := Aside0.mk hF_; have BX := Aside0.mk m_; clear hF_ m_)
                    | (go_at_call 51; have h_ := TP.text2 F.out _ (Lib.itoa v) (rfl) (by have := HT.out; have := HKL.out; have := HLT.out; have h3 := HG.out; (try (have h4 := itoa_len s (by omega) (by omega))); have := itoa_len v HVV.out.1 HVV.out.2; simp only [List.length_append, List.length_cons, List.length_nil]; omega); with_reducible refine h_.mono ?_; clear h_; rintro e_ W9 ⟨⟨v_, rfl⟩, hF_, hk_⟩; have m_ := Kp.box hk_ BX.out (by decide) (by decide); clear F BX hk_; have F := Aside0.mk hF_; have BX := Aside0.mk m_; clear hF_ m_))
                  go_roundg (ks.length - (y + 1).toNat)
                  case measure => go_light; have := HY2.out; omega
                  case rel =>
                    go_light
                    exact ⟨y + 1, by simp [w2_], ⟨by omega, by have := HY2.out; omega⟩, ⟨by rw [HKK2.out]; simpa only [List.append_assoc, List.nil_append] using F.out⟩, BX⟩
              case neg =>
                have hy : y.toNat = ks.length := by have := HY2.out; omega
                rw [hy] at F
                have hline : T ++ lineT ⟨s, ks⟩ = T ++ kidsT ks ks.length ++ [10] := by
                  unfold lineT
                  dsimp only
                  rw [if_neg hlf]
                  simp only [List.append_assoc, List.nil_append]
                have hlen2 : (T ++ kidsT ks ks.length).length ≤ 2000000 := by
                  have h1 := KL.out ks.length (Nat.le_refl _)
                  have h2 := HT.out
                  have h3 := HG.out
                  (try (have h4 := itoa_len s (by omega) (by omega)))
                  simp only [List.length_append, List.length_cons, List.length_nil]
                  omega
                have HL2 := Aside0.mk hlen2
                rw [hline] at HR2
                clear hline hlen2
                obtain ⟨N, hN⟩ : ∃ N : Int, N = ((T ++ kidsT ks ks.length ++ [10]).length : Int) := ⟨_, rfl⟩
                have HN := Aside0.mk hN
                by_cases big : 1048576 < (T ++ kidsT ks ks.length ++ [10]).length
                · have big_ : N > 1048576 := by omega
                  have hRN : none = RR := by
                    have h := HR2.out
                    rw [if_pos big] at h
                    exact h
                  have HRN := Aside0.mk hRN
                  clear hRN big HR2 hN
                  go_wp2_with (first
                    | (go_at_call 53; have h_ := TP.byte F.out 10 10 rfl (by have := HL2.out; omega); with_reducible refine h_.mono ?_; clear h_; rintro e_ W9 ⟨rfl, hF_, hk_⟩; have m_ := Kp.box hk_ BX.out (by decide) (by decide); clear F BX hk_; have F := Aside0.mk hF_; have BX := Aside0.mk m_; clear hF_ m_)
                    | (go_at_call 54; have h_ := TP.len F.out; rw [← HN.out] at h_; with_reducible refine h_.mono ?_; clear h_; rintro e_ W9 ⟨rfl, rfl⟩))
                  go_ret2
                  exact ⟨by rw [HRES.out, ← HRN.out]; rfl, F.out.be⟩
                · have big_ : ¬ N > 1048576 := by omega
                  have HR3 : Aside0 (restT l d (x.toNat + 1) (T ++ kidsT ks ks.length ++ [10]) = RR) := ⟨by
                    have h := HR2.out
                    rw [if_neg big] at h
                    exact h⟩
                  have HT3 := Aside0.mk (show (T ++ kidsT ks ks.length ++ [10]).length ≤ 1048576 by omega)
                  clear big HR2 hN
                  go_wp2_with (first
                    | (go_at_call 53; have h_ := TP.byte F.out 10 10 rfl (by have := HL2.out; omega); with_reducible refine h_.mono ?_; clear h_; rintro e_ W9 ⟨rfl, hF_, hk_⟩; have m_ := Kp.box hk_ BX.out (by decide) (by decide); clear F BX hk_; have F := Aside0.mk hF_; have BX := Aside0.mk m_; clear hF_ m_)
                    | (go_at_call 54; have h_ := TP.len F.out; rw [← HN.out] at h_; with_reducible refine h_.mono ?_; clear h_; rintro e_ W9 ⟨rfl, rfl⟩))
                  go_roundg d
                  case measure => go_light; omega
                  case rel =>
                    go_light
                    exact ⟨x + 1, _, by simp [w1_], ⟨by omega, by have := HX.out; omega⟩, ⟨by rw [show (x + 1).toNat = x.toNat + 1 by omega]; exact HR3.out⟩, HT3, F, BX⟩
end Go.Proofs.YtbnonnogkgbpiaaDoor.TreeText
end
section
namespace Go.Proofs.YtbnonnogkgbpiaaDoor.AliveT
open Go Go.RowKit Go.Proofs.YtbnonnogkgbpiaaDoorW.PrintWords Go.Proofs.YtbnonnogkgbpiaaDoorW.PrintLast Go.Proofs.YtbnonnogkgbpiaaDoorW.PrintMore Go.Proofs.YtbnonnogkgbpiaaDoor.PT Go.Proofs.YtbnonnogkgbpiaaDoor.TreePlain Go.Proofs.YtbnonnogkgbpiaaDoor.TreeText Go.Proofs.YtbnonnogkgbpiaaDoor.Forest Go.Proofs.YtbnonnogkgbpiaaDoor.Says
set_option linter.unusedVariables false
def dl : List S49 := [⟨0, []⟩, ⟨1, []⟩, ⟨0, [0, 1]⟩, ⟨0, [1, 0]⟩, ⟨0, [2, 3]⟩]
theorem d_at : tree_At.f 50 2 2 dl 4 [1, 0] = some (1, 0) := by kernel_rfl
theorem d_check : tree_Check.f 50 2 2 dl 4 = some 0 := by kernel_rfl
theorem d_keeps : tree_Keeps.f 50 2 2 dl 4 [1, 0] = some (true, 0) := by kernel_rfl
theorem d_chk : chk 2 2 dl 4 = 0 := by kernel_rfl
theorem d_of : ofP 2 2 [0, 1, 1, 0] = ((2, 2, dl, 4), 0) := by kernel_rfl
theorem d_text : printP 2 2 dl 4 = ([116, 114, 101, 101, 32, 50, 32, 50, 32, 53, 32, 52, 10, 61, 32, 48, 10, 61, 32, 49, 10, 48, 32, 49, 10, 49, 32, 48, 10, 50, 32, 51, 10], 0) := by kernel_rfl
end Go.Proofs.YtbnonnogkgbpiaaDoor.AliveT
end
section
namespace Go.Proofs.YtbnonnogkgbpiaaDoor.AliveT
open Go Go.RowKit Go.Proofs.YtbnonnogkgbpiaaDoorW.PrintWords Go.Proofs.YtbnonnogkgbpiaaDoorW.PrintLast Go.Proofs.YtbnonnogkgbpiaaDoorW.PrintMore Go.Proofs.YtbnonnogkgbpiaaDoor.PT Go.Proofs.YtbnonnogkgbpiaaDoor.TreePlain Go.Proofs.YtbnonnogkgbpiaaDoor.TreeText Go.Proofs.YtbnonnogkgbpiaaDoor.Forest Go.Proofs.YtbnonnogkgbpiaaDoor.Says
set_option linter.unusedVariables false
set_option linter.unusedSimpArgs false
theorem d_bytes : Bytes dl := by
  intro x hx
  simp only [dl, List.mem_cons, List.not_mem_nil, or_false] at hx
  rcases hx with rfl | rfl | rfl | rfl | rfl <;> exact ⟨by decide, by decide⟩
theorem lit_c {W : World} {e : TypeId} (k : IntKind) (xs : List Int) (hm : xs.length ≤ 9223372036854775807) : Kd.C (Kd.int k) (W.alloc (.cells (nums k xs).toArray e)) (some ⟨W.heap.size, 0, none⟩) xs.length xs :=
  Kd.C_of_reads (own_reads' (own_lit W 0 e k xs (Nat.zero_le _) hm))
theorem step_lit {W W6 : World} {o : Obj} (hb : Below (W.alloc o).heap.size (W.alloc o) W6) : Below W.heap.size W W6 := (below_alloc (Below.refl _ W) o).trans (hb.mono (by simp))
theorem d_of_calls (A0 : Option Addr) (c0 : Nat) (w1 : World) (h : Kd.C (Kd.int .u8) w1 A0 [0, 1, 1, 0].length [0, 1, 1, 0]) (hc : 4 ≤ c0) :
    Calls Tryd.prog 21 #[.agg #[.int .i64 2, .int .i64 2, .slice A0 4 c0]] w1 fun e w' => (∃ A c, e = .returned (.tuple #[.agg #[.int .i64 2, .int .i64 2, .slice A 5 c, .int .i64 4], .int .i64 0]) ∧ 5 ≤ c ∧ Kd.C k49 w' A dl.length dl) ∧ Below w1.heap.size w1 w' := by
  have h_ := law_of_calls 2 2 A0 c0 [0, 1, 1, 0] w1 h hc (by decide) (by decide)
  rw [d_of] at h_
  refine h_.mono ?_
  rintro e w' ⟨⟨nv, rfl, hr⟩, hb⟩
  obtain ⟨A, c, rfl, hc, hC⟩ := Kd.R_reads hr
  exact ⟨⟨A, c, rfl, hc, hC⟩, hb⟩
theorem d_at_calls (A : Option Addr) (c : Nat) (W : World) (h : Kd.C k49 W A dl.length dl) (hc : 5 ≤ c) (A1 : Option Addr) (h1 : Kd.C (Kd.int .u8) W A1 [1, 0].length [1, 0]) :
    Calls Tryd.prog 24 #[.agg #[.int .i64 2, .int .i64 2, .slice A 5 c, .int .i64 4], .slice A1 2 2] W fun e w' => e = .returned (.tuple #[.int .u8 1, .int .i64 0]) ∧ Below W.heap.size W w' :=
  tree_At.calls 50 2 2 A c dl 4 A1 2 [1, 0] 1 0 W h hc h1 (by decide) d_at
theorem d_keeps_calls (A : Option Addr) (c : Nat) (W : World) (h : Kd.C k49 W A dl.length dl) (hc : 5 ≤ c) (A1 : Option Addr) (h1 : Kd.C (Kd.int .i64) W A1 [1, 0].length [1, 0]) :
    Calls Tryd.prog 40 #[.agg #[.int .i64 2, .int .i64 2, .slice A 5 c, .int .i64 4], .slice A1 2 2] W fun e w' => e = .returned (.tuple #[.bool true, .int .i64 0]) ∧ Below W.heap.size W w' :=
  tree_Keeps.calls 50 2 2 A c dl 4 A1 2 [1, 0] true 0 W h hc h1 (by decide) d_keeps
theorem d_print_calls (A : Option Addr) (c : Nat) (W : World) (hp : Pow W) (h : Kd.C k49 W A dl.length dl) (hc : 5 ≤ c) :
    Calls Tryd.prog 17 #[.agg #[.int .i64 2, .int .i64 2, .slice A 5 c, .int .i64 4]] W fun e w' => e = .returned (.tuple #[.string ⟨#[116, 114, 101, 101, 32, 50, 32, 50, 32, 53, 32, 52, 10, 61, 32, 48, 10, 61, 32, 49, 10, 48, 32, 49, 10, 49, 32, 48, 10, 50, 32, 51, 10]⟩, .int .i64 0]) ∧ Below W.heap.size W w' := by
  have h_ := print_ok 50 2 2 A c dl 4 W hp h hc d_check (chk_zero d_chk) d_bytes
  rw [d_text] at h_
  exact h_
set_option maxHeartbeats 8000000 in
set_option maxRecDepth 100000 in
theorem alive_calls (w : World) (hp : Pow w) : Calls Tryd.prog 16 #[] w fun e w' => e = .returned (.bool true) ∧ Below w.heap.size w w' := by
  have hu := Tryd.underlying24
  have HB := Aside0.mk (Below.refl w.heap.size w)
  have HP := Aside0.mk hp
  clear hp
  go_enter Tryd.func16, Tryd.ntmps16
  go_wp2_with (first
    | (go_at_call 50; (with_reducible refine (vivariumlaw11_differ.calls 2 2 [0, 1, 1, 0] _ rfl).mono ?_); rintro e_ w1 ⟨v2_, rfl, hr_, hb_⟩; obtain ⟨A0, c0, rfl, hc0, hC0⟩ := Kd.R_reads hr_; have HC0 := Aside0.mk hC0; have HL0 := Aside0.mk (show 4 ≤ c0 from hc0); have HB1 := Aside0.mk (HB.out.trans (hb_.mono HB.out.size)); clear hr_ hb_ hc0 hC0 HB; have HB := HB1; clear HB1)
    | (go_at_call 21; (with_reducible refine (d_of_calls A0 c0 _ HC0.out HL0.out).mono ?_); rintro e_ w2 ⟨⟨A, c, rfl, hc, hC⟩, hb_⟩; have HC := Aside0.mk hC; have HL := Aside0.mk (show 5 ≤ c from hc); have HB1 := Aside0.mk (HB.out.trans (hb_.mono HB.out.size)); clear hb_ hc hC HB HC0 HL0; have HB := HB1; clear HB1)
    | ((with_reducible refine gate_dst (N := 1) rfl ?_); refine box_event ?hg (N := 1) ?hd (cs := #[.int .i64 0, .int .i64 0, .slice none 0 0, .int .i64 0]) (t := 24) ?hr ?_; (case hd => rfl); (case hg => rfl); (case hr => first | (go_simp; done) | (go_simp; rfl)); intro g9 hg9 W8 hbox hb; have NB := Aside0.mk hbox; have hb9 := Aside0.mk hb; obtain ⟨y0_, y1_, y2_, y3_⟩ := four hbox; have z0_ := blk_frozen hbox 0; have z1_ := blk_frozen hbox 1; have z2_ := blk_frozen hbox 2; have z3_ := blk_frozen hbox 3; have GE := Aside0.mk hg9; clear hbox hb hg9)
    | ((with_reducible refine gate_store (t := 24) (p := 1) rfl ?_); refine store_event (t := 24) (p := 1) (v := ?vo_) (w1 := (((W8.setCell ⟨g9, 0, none⟩ (.int .i64 2)).setCell ⟨g9, 1, none⟩ (.int .i64 2)).setCell ⟨g9, 2, none⟩ (.slice A 5 c)).setCell ⟨g9, 3, none⟩ (.int .i64 4)) ?hgs ?hos ?hns ?hrs ?_; (case hos => rfl); (case hgs => rfl); (case hns => rfl); (case hrs => first | (go_simp; done) | (go_simp; rfl)); rintro W7 rfl; have hb_ : Below w2.heap.size w2 ((((W8.setCell ⟨g9, 0, none⟩ (.int .i64 2)).setCell ⟨g9, 1, none⟩ (.int .i64 2)).setCell ⟨g9, 2, none⟩ (.slice A 5 c)).setCell ⟨g9, 3, none⟩ (.int .i64 4)) := below_set (below_set (below_set (below_set hb9.out (Nat.le_of_eq GE.out.symm)) (Nat.le_of_eq GE.out.symm)) (Nat.le_of_eq GE.out.symm)) (Nat.le_of_eq GE.out.symm); have nb_ := blk_put (blk_put (blk_put (blk_put NB.out 0 (.int .i64 2) rfl) 1 (.int .i64 2) rfl) 2 (.slice A 5 c) rfl) 3 (.int .i64 4) rfl; have HB1 := Aside0.mk (HB.out.trans (hb_.mono HB.out.size)); have HC1 := Aside0.mk (Kd.C_below HC.out hb_); clear y0_ y1_ y2_ y3_ z0_ z1_ z2_ z3_ HB HC NB hb9 GE hb_; generalize (((W8.setCell ⟨g9, 0, none⟩ (.int .i64 2)).setCell ⟨g9, 1, none⟩ (.int .i64 2)).setCell ⟨g9, 2, none⟩ (.slice A 5 c)).setCell ⟨g9, 3, none⟩ (.int .i64 4) = W7 at *; have HB := HB1; have HC := HC1; have NB := Aside0.mk nb_; obtain ⟨y0_, y1_, y2_, y3_⟩ := four nb_; clear HB1 HC1 nb_)
    | (go_at_call 24; (with_reducible refine (d_at_calls A c _ (Kd.C_below HC.out (below_alloc (Below.refl _ _) _)) HL.out _ (lit_c (e := 5) .u8 [1, 0] (by decide))).mono ?_); rintro e_ W6 ⟨rfl, hb_⟩; have hb2_ := step_lit hb_; have HB1 := Aside0.mk (HB.out.trans (hb2_.mono HB.out.size)); have HC1 := Aside0.mk (Kd.C_below HC.out hb2_); have NB1 := Aside0.mk (blk_below NB.out hb2_); clear HB HC NB y0_ y1_ y2_ y3_ hb_ hb2_; have HB := HB1; have HC := HC1; have NB := NB1; obtain ⟨y0_, y1_, y2_, y3_⟩ := four NB.out; clear HB1 HC1 NB1)
    | (go_at_call 17; (with_reducible refine (d_print_calls A c _ (HP.out.on HB.out) HC.out HL.out).mono ?_); rintro e_ W5 ⟨rfl, hb_⟩; have HB1 := Aside0.mk (HB.out.trans (hb_.mono HB.out.size)); have HC1 := Aside0.mk (Kd.C_below HC.out hb_); have NB1 := Aside0.mk (blk_below NB.out hb_); clear HB HC NB y0_ y1_ y2_ y3_ hb_; have HB := HB1; have HC := HC1; have NB := NB1; obtain ⟨y0_, y1_, y2_, y3_⟩ := four NB.out; clear HB1 HC1 NB1)
    | (go_at_call 40; (with_reducible refine (d_keeps_calls A c _ (Kd.C_below HC.out (below_alloc (Below.refl _ _) _)) HL.out _ (lit_c (e := 3) .i64 [1, 0] (by decide))).mono ?_); rintro e_ W4 ⟨rfl, hb_⟩; have hb2_ := step_lit hb_; have HB1 := Aside0.mk (HB.out.trans (hb2_.mono HB.out.size)); have HC1 := Aside0.mk (Kd.C_below HC.out hb2_); have NB1 := Aside0.mk (blk_below NB.out hb2_); clear HB HC NB y0_ y1_ y2_ y3_ hb_ hb2_; have HB := HB1; have HC := HC1; have NB := NB1; obtain ⟨y0_, y1_, y2_, y3_⟩ := four NB.out; clear HB1 HC1 NB1))
  go_ret
  exact ⟨rfl, HB.out⟩
end Go.Proofs.YtbnonnogkgbpiaaDoor.AliveT
end
section
namespace Go.Proofs.YtbnonnogkgbpiaaDoor.PT
open Go.RowKit Go.Proofs.YtbnonnogkgbpiaaDoorW.PrintWords Go.Proofs.YtbnonnogkgbpiaaDoorW.PrintLast Go.Proofs.YtbnonnogkgbpiaaDoorW.PrintMore
attribute [local go_sem] max2_int min2_int max_two min_two max_three min_three max_four min_four   -- for this text's walks alone
set_option linter.unusedVariables false
set_option linter.unusedSimpArgs false
end Go.Proofs.YtbnonnogkgbpiaaDoor.PT
end
section
namespace Go.Proofs.YtbnonnogkgbpiaaDoor.AliveT
open Go Go.RowKit Go.Proofs.YtbnonnogkgbpiaaDoorW.PrintWords Go.Proofs.YtbnonnogkgbpiaaDoorW.PrintLast Go.Proofs.YtbnonnogkgbpiaaDoorW.PrintMore Go.Proofs.YtbnonnogkgbpiaaDoor.PT Go.Proofs.YtbnonnogkgbpiaaDoor.TreePlain Go.Proofs.YtbnonnogkgbpiaaDoor.TreeText Go.Proofs.YtbnonnogkgbpiaaDoor.Forest Go.Proofs.YtbnonnogkgbpiaaDoor.Says
set_option linter.unusedVariables false
set_option linter.unusedSimpArgs false
theorem one_c {W : World} (s : Int) : Kd.C k49 (W.alloc (.cells #[.int .u8 s, .slice none 0 0] 49)) (some ⟨W.heap.size, 0, none⟩) [(⟨s, []⟩ : S49)].length [⟨s, []⟩] := by
  have hb := heap_alloc_new W (.cells #[.int .u8 s, .slice none 0 0] 49)
  refine ⟨rfl, by simp, fun _ => ⟨_, rfl, fun j p hj => ?_⟩⟩
  match j, hj with
  | 0, hj =>
    cases hj
    refine ⟨[.int .u8 s, .slice none 0 0], rfl, k49_mk _ ⟨s, []⟩ (Nat.le_refl _) (Kd.C_nil _ _), fun i u hu => ?_⟩
    match i, hu with
    | 0, hu => cases hu; exact (blk_cell hb 0).trans rfl
    | 1, hu => cases hu; exact (blk_cell hb 1).trans rfl
theorem check_one (st s code : Int) (h : tree_Check.f 20 st 0 [⟨s, []⟩] 0 = some code) (W : World) :
    Calls Tryd.prog 22 #[.agg #[.int .i64 st, .int .i64 0, .slice (some ⟨W.heap.size, 0, none⟩) 1 1, .int .i64 0]] (W.alloc (.cells #[.int .u8 s, .slice none 0 0] 49)) fun e w' => e = .returned (.int .i64 code) ∧ Below W.heap.size W w' := by
  refine (tree_Check.calls 20 st 0 (some ⟨W.heap.size, 0, none⟩) 1 [⟨s, []⟩] 0 code _ (one_c s) (Nat.le_refl _) h).mono ?_
  rintro e w' ⟨rfl, hb⟩
  exact ⟨rfl, step_lit hb⟩
set_option maxHeartbeats 8000000 in
set_option maxRecDepth 100000 in
theorem names_walk (w : World) (hp : Pow w) : Calls Tryd.prog 5 #[] w fun e w' => e = .returned (.bool true) ∧ Below w.heap.size w w' := by
  have HB := Aside0.mk (Below.refl w.heap.size w)
  have HP := Aside0.mk hp
  clear hp
  go_enter Tryd.func5, Tryd.ntmps5
  go_wp2_with (first
    | (go_at_call 16; (with_reducible refine (alive_calls _ HP.out).mono ?_); rintro e_ w1 ⟨rfl, hb_⟩; have HB1 := Aside0.mk (HB.out.trans (hb_.mono HB.out.size)); clear hb_ HB; have HB := HB1; clear HB1)
    | (go_at_call 22; (with_reducible refine (check_one 2 1 0 (by kernel_rfl) _).mono ?_); rintro e_ w2 ⟨rfl, hb_⟩; have HB1 := Aside0.mk (HB.out.trans (hb_.mono HB.out.size)); clear hb_ HB; have HB := HB1; clear HB1)
    | (go_at_call 22; (with_reducible refine (check_one 2 2 110 (by kernel_rfl) _).mono ?_); rintro e_ w2 ⟨rfl, hb_⟩; have HB1 := Aside0.mk (HB.out.trans (hb_.mono HB.out.size)); clear hb_ HB; have HB := HB1; clear HB1)
    | (go_at_call 22; (with_reducible refine (check_one 257 2 110 (by kernel_rfl) _).mono ?_); rintro e_ w2 ⟨rfl, hb_⟩; have HB1 := Aside0.mk (HB.out.trans (hb_.mono HB.out.size)); clear hb_ HB; have HB := HB1; clear HB1))
  go_ret
  exact ⟨rfl, HB.out⟩
end Go.Proofs.YtbnonnogkgbpiaaDoor.AliveT
end
section
namespace Go.Proofs.YtbnonnogkgbpiaaDoor.treeNames
open Go.ChangeShapes Go.WideShapes Go.ChangeAt Go.RowKit Go.Joins Go.Deep
open Go.ChangeMaps (open_string shut_string)
set_option linter.unusedVariables false
theorem own : ownKnob Tryd.prog.godebug = none := by kernel_rfl
theorem laidOut : laidOutB Tryd.prog = true := by kernel_rfl
theorem laidPlain {W : World} (h : laidMetH Tryd.prog Rows.treeNamesUptoRow.laid W) : laidMet Tryd.prog Rows.treeNamesUptoRow.laid W := by
  rw [MakeChecks.laidMetH_plain _ _ _ (by kernel_rfl)] at h; exact h
theorem pow10 {W : World} (h : laidMetH Tryd.prog Rows.treeNamesUptoRow.laid W) : Lib.TabIs Tryd.prog W "internal/strconv.uint64pow10" .u64 Lib.pow10Tab :=
  Lib.tabIs_of_head (g := 0) (t := 153) (e := 147) (n := 20) (by kernel_rfl) (by kernel_rfl) Tryd.underlying153 Tryd.underlying147 (by kernel_rfl) (by kernel_rfl) (laidMet.tail (laidMet.tail (laidPlain h)))
theorem door_met (os : Os) (args : Array Value) : laidMetH Tryd.prog Rows.treeNamesUptoRow.laid ((World.doorLaid Tryd.prog 24 os).forCall (fun _ _ => 0) ⟨#[], args, []⟩).memory :=
  laidMetH_of_parts3 (fuel := 8) (laidMet_of_run' 8 (by kernel_rfl) (by kernel_rfl)) (by kernel_rfl) (by kernel_rfl)
set_option maxRecDepth 100000 in
theorem reads (os : Os) {H : Type} (enc : TypeId × Value → H) : ∃ places, DataW.whole enc Tryd.prog ((World.doorLaid Tryd.prog 24 os).forCall (fun _ _ => 0) ⟨#[], #[], []⟩).memory Tryd.f5.params.toList Rows.treeNamesSpec.vars false (#[] : Array Value).toList 8 = some ([], [], places) := ⟨[], by kernel_rfl⟩
set_option maxRecDepth 100000 in
theorem lifted (os : Os) (started : os.Started) (H : Type) (enc : TypeId × Value → H) (F : Stop.Interp) :
    ReturnsInHanded {} Tryd.checked os 5 .any ((Rows.OpenSpec.upto Rows.treeNamesSpec).preRow enc Tryd.prog Tryd.f5 Rows.treeNamesUptoRow.domain false Rows.treeNamesUptoRow.laid) (((Rows.OpenSpec.upto Rows.treeNamesSpec).at F).post enc Tryd.prog Tryd.f5 false true false false) := by
  obtain ⟨places, hx⟩ := reads os enc
  refine returnsInHanded_of_row (C := Tryd.checked) (s := Rows.OpenSpec.upto Rows.treeNamesSpec) own started (by kernel_rfl) Tryd.func5
    (witness_row_atRef (enc := enc) (C := Tryd.checked) false (World.doorLaid Tryd.prog 24 os) #[] rfl (by kernel_rfl) (by kernel_rfl) (by kernel_rfl)
      (OpenSpec.preRow_of_cond 8 hx (by kernel_rfl) (fun k hk => by cases hk; kernel_rfl) (by kernel_rfl) (door_met os _))) ?_
  intro W base args ds gs before hval0 hW _ hcond hsz0 hL _ _
  have hk_ := hcond _ rfl
  have hsz : (DataW.weightsEach Tryd.prog (Tryd.f5.params.toList ++ Rows.treeNamesSpec.plain.varTypes Tryd.prog) (ds ++ gs)).all (· ≤ reachBytes) = true := hsz0
  have hval : ∀ (j : Nat) t v, Tryd.f5.params[j]? = some t → args[j]? = some v → Value.okWide Tryd.prog W .any base t v := hval0
  have hW' := hW
  obtain ⟨p, q, hA0, hV, rfl, hfz, hnd⟩ := hW
  have hA : DataW.TrodAll enc Tryd.prog W 0 (fun _ => true) true Tryd.f5.params.toList args.toList ds p := hA0
  rw [Tryd.params5] at hA hval hsz
  obtain ⟨rfl, rfl, rfl⟩ := trodAll_none hA
  obtain ⟨rfl, rfl⟩ := trodVars_none hV
  clear hA0 hval0 hsz0
  clear hsz
  have done : ∀ W', Below W.heap.size W W' → ∃ r, (Ending.returned (.bool true)) = .returned r ∧ Rows.treeNamesSpec.post enc Tryd.prog Tryd.f5 false true false false W #[] r W' := fun W' bel =>
    ⟨_, rfl, _, _, _, [], _, [], hW', trodAll_mk1 (shut_bool Tryd.underlying4 _), trodAll_mk0, rfl, bel.frame _, fun h => by cases h⟩
  refine (AliveT.names_walk W (pow10 hL)).mono fun e W' ⟨he, bel⟩ => ?_
  subst he
  exact done W' bel
theorem said : Rows.TreeNamesUptoSaid :=
  OpenClaim.holds_of_cond 5 Tryd.f5 rfl rfl rfl rfl rfl rfl rfl ⟨rfl, rfl, rfl, rfl, rfl⟩ rfl rfl rfl rfl rfl (by kernel_rfl) Tryd.func5 (by kernel_rfl)
    (of_decide_eq_true (by kernel_rfl)) (by unfold Func.isWrapper; first | (rw [if_pos (by decide +kernel)]; kernel_rfl) | (rw [if_neg (by decide +kernel)]; exact ⟨rfl, rfl⟩))
    (fun os started H enc _ F => by rw [OpenClaim.pre_eq_preRow]; exact lifted os started H enc F)
theorem plain (f : FuncId) (fn : Func) (hf : Tryd.pinned.checked.prog.funcNamed "vivarium/vivariumlaw11.TreeNames" = some f) (hfn : Tryd.pinned.checked.prog.funcs[f]? = some fn) :
    false = Tryd.pinned.checked.prog.looks [] ∧ ∀ (j : Nat) t, fn.params[j]? = some t → Tryd.pinned.checked.prog.wantsStandIn t = false := by
  obtain rfl : f = 5 := Option.some.inj ((show Tryd.prog.funcNamed "vivarium/vivariumlaw11.TreeNames" = some 5 by kernel_rfl).symm.trans hf) |>.symm
  obtain rfl : fn = Tryd.f5 := (Option.some.inj (Tryd.func5.symm.trans hfn)).symm
  refine ⟨by kernel_rfl, fun j t ht => ?_⟩
  rw [Tryd.params5] at ht
  simp at ht
theorem card : Rows.TreeNamesUptoCardSaid :=
  Claim7.holds_tied_plain_at .later [] _ _ _ _ said (fun _ h => by cases h) (by kernel_rfl) (fun _ h => by cases h) treeNamesUpto_row_tie rfl ⟨rfl, rfl⟩ (by kernel_rfl) rfl plain (by kernel_rfl)
end Go.Proofs.YtbnonnogkgbpiaaDoor.treeNames
namespace Go.Proofs.YtbnonnogkgbpiaaDoor
theorem treeNames_holds : Rows.TreeNamesUptoCardSaid := treeNames.card
#print axioms treeNames_holds
end Go.Proofs.YtbnonnogkgbpiaaDoor
end
