/- What the row of this claim leans on, part 5. -/
import Derived.Test.YtbnonnogkgbpiaaDoorKBack4
section
namespace Go.Proofs.YtbnonnogkgbpiaaDoor.PT
open Go.RowKit Go.Proofs.YtbnonnogkgbpiaaDoorW.PrintWords Go.Proofs.YtbnonnogkgbpiaaDoorW.PrintLast Go.Proofs.YtbnonnogkgbpiaaDoorW.PrintMore
attribute [local go_sem] max2_int min2_int max_two min_two max_three min_three max_four min_four   -- for this text's walks alone
set_option linter.unusedVariables false
set_option linter.unusedSimpArgs false
mutual
def tree_Keeps.l0 : Nat → List Int → List Int → List Int → Int → Int → Int → Int → List (S49) → Int → Option (Bool × Int)
  | 0, _, _, _, _, _, _, _, _, _ => none
  | k + 1, x1, x9, x10, x41, x42, x130000, x130001, x130002, x130003 => if x42 < x41 then (tree_Keeps.l1 k x1 x9 x10 x42 x41 x42 (x9.length : Int) 0 x130000 x130001 x130002 x130003) else (some (true, 0))
def tree_Keeps.l1 : Nat → List Int → List Int → List Int → Int → Int → Int → Int → Int → Int → Int → List (S49) → Int → Option (Bool × Int)
  | 0, _, _, _, _, _, _, _, _, _, _, _, _ => none
  | k + 1, x1, x9, x10, x11, x41, x42, x46, x47, x130000, x130001, x130002, x130003 => if x47 < x46 then (if x130000 = 0 then (none) else (if 0 ≤ x47 then (if x47 < (x9.length : Int) then (tree_Keeps.l1 k x1 (x9.set (x47 : Int).toNat ((Int.tmod x11 x130000) % 256)) x10 (wrap64 (Int.tdiv x11 x130000)) x41 x42 x46 (wrap64 (x47 + 1)) x130000 x130001 x130002 x130003) else (none)) else (none))) else (tree_Keeps.l2 k x1 x9 x10 x41 x42 x1 (x1.length : Int) 0 x130000 x130001 x130002 x130003)
def tree_Keeps.l2 : Nat → List Int → List Int → List Int → Int → Int → List Int → Int → Int → Int → Int → List (S49) → Int → Option (Bool × Int)
  | 0, _, _, _, _, _, _, _, _, _, _, _, _ => none
  | k + 1, x1, x9, x10, x41, x42, x63, x64, x65, x130000, x130001, x130002, x130003 => if x65 < x64 then (if 0 ≤ x65 then (if x65 < (x63.length : Int) then (if 0 ≤ (rd x63 x65) then (if (rd x63 x65) < (x9.length : Int) then (if x65 < (x10.length : Int) then (tree_Keeps.l2 k x1 x9 (x10.set (x65 : Int).toNat (rd x9 (rd x63 x65))) x41 x42 x63 x64 (wrap64 (x65 + 1)) x130000 x130001 x130002 x130003) else (none)) else (none)) else (none)) else (none)) else (none)) else ((tree_at.f k x130000 x130001 x130002 x130003 x9).bind fun t144 => ((tree_at.f k x130000 x130001 x130002 x130003 x10).bind fun t145 => (if t144 = t145 then (tree_Keeps.l0 k x1 x9 x10 x41 (wrap64 (x42 + 1)) x130000 x130001 x130002 x130003) else (some (false, 0)))))
end
def tree_Keeps.f (k : Nat) (a0_0 : Int) (a0_1 : Int) (l0_2 : List (S49)) (a0_3 : Int) (l1 : List Int) : Option (Bool × Int) := (tree_Check.f k a0_0 a0_1 l0_2 a0_3).bind fun t130 => (if t130 = 0 then ((tree_order.f k l1 a0_1).bind fun t131 => (if t131 = true then ((tree_rowsOf.f k a0_0 a0_1).bind fun bt132 => (if bt132.2 = true then (if 0 ≤ a0_1 then (if (a0_1 : Int).toNat ≤ 281474976710656 then (tree_Keeps.l0 k l1 (List.replicate (a0_1 : Int).toNat 0) (List.replicate (a0_1 : Int).toNat 0) bt132.1 0 a0_0 a0_1 l0_2 a0_3) else (none)) else (none)) else (some (false, 4)))) else (some (false, 111)))) else (some (false, t130)))
def tree_Keeps.T9 : Bool × List (List Nat × List Nat) := (true, [([], []), ([0], [0]), ([1, 1], [1]), ([], []), ([3], [3]), ([4, 4], [4]), ([2, 0, 1, 2], [2]), ([5, 6, 0, 1, 2, 3, 4, 5, 6], [5])])
def tree_Keeps.B9 : List Nat := [0, 1, 3, 0, 8, 24, 7, 127]
theorem tree_Keeps.tab9 : rtab .any (opsOf Tryd.f40 9) = tree_Keeps.T9 := by kernel_rfl
theorem tree_Keeps.bits9 : waitsOk tree_Keeps.T9.2 tree_Keeps.B9 = true := by kernel_rfl
set_option maxHeartbeats 8000000 in
set_option maxRecDepth 100000 in
theorem tree_Keeps.calls (k : Nat) (a0_0 : Int) (a0_1 : Int) (A0_2 : Option Addr) (c0_2 : Nat) (l0_2 : List (S49)) (a0_3 : Int) (A1 : Option Addr) (c1 : Nat) (l1 : List Int) (r1 : Bool) (r2 : Int) (w : World) (hr0_2 : Kd.C k49 w A0_2 l0_2.length l0_2) (hc0_2 : l0_2.length ≤ c0_2) (hr1 : Kd.C (Kd.int .i64) w A1 l1.length l1) (hc1 : l1.length ≤ c1) (h : tree_Keeps.f k a0_0 a0_1 l0_2 a0_3 l1 = some (r1, r2)) :
    Calls Tryd.prog 40 #[.agg #[.int .i64 a0_0, .int .i64 a0_1, .slice A0_2 l0_2.length c0_2, .int .i64 a0_3], .slice A1 l1.length c1] w fun e w' => e = .returned (.tuple #[.bool r1, .int .i64 r2]) ∧ Below w.heap.size w w' := by
  have hu24 := Tryd.underlying24
  have HR0_2 := Aside0.mk hr0_2
  have HC0_2 := Aside0.mk hc0_2
  clear hr0_2 hc0_2
  have HR1 := Aside0.mk hr1
  have HC1 := Aside0.mk hc1
  clear hr1 hc1
  have HB := Aside0.mk (Below.refl w.heap.size w)
  have H : ((tree_Check.f k a0_0 a0_1 l0_2 a0_3).bind fun t130 => (if t130 = 0 then ((tree_order.f k l1 a0_1).bind fun t131 => (if t131 = true then ((tree_rowsOf.f k a0_0 a0_1).bind fun bt132 => (if bt132.2 = true then (if 0 ≤ a0_1 then (if (a0_1 : Int).toNat ≤ 281474976710656 then (tree_Keeps.l0 k l1 (List.replicate (a0_1 : Int).toNat 0) (List.replicate (a0_1 : Int).toNat 0) bt132.1 0 a0_0 a0_1 l0_2 a0_3) else (none)) else (none)) else (some (false, 4)))) else (some (false, 111)))) else (some (false, t130)))) = some (r1, r2) := h
  clear h
  replace H := Option.bind_eq_some_iff.mp H
  obtain ⟨t130, A30, H⟩ := H
  replace H : (if t130 = 0 then ((tree_order.f k l1 a0_1).bind fun t131 => (if t131 = true then ((tree_rowsOf.f k a0_0 a0_1).bind fun bt132 => (if bt132.2 = true then (if 0 ≤ a0_1 then (if (a0_1 : Int).toNat ≤ 281474976710656 then (tree_Keeps.l0 k l1 (List.replicate (a0_1 : Int).toNat 0) (List.replicate (a0_1 : Int).toNat 0) bt132.1 0 a0_0 a0_1 l0_2 a0_3) else (none)) else (none)) else (some (false, 4)))) else (some (false, 111)))) else (some (false, t130))) = some (r1, r2) := H
  have A3 := Aside0.mk A30
  clear A30
  by_cases c4 : t130 = 0
  · rw [if_pos c4] at H
    have c4b0 : (t130 == 0) = true := beq_iff_eq.mpr c4
    have c4b1 : (t130 != 0) = false := bne_eq_false_iff_eq.mpr c4
    clear c4
    replace H := Option.bind_eq_some_iff.mp H
    obtain ⟨t131, A50, H⟩ := H
    replace H : (if t131 = true then ((tree_rowsOf.f k a0_0 a0_1).bind fun bt132 => (if bt132.2 = true then (if 0 ≤ a0_1 then (if (a0_1 : Int).toNat ≤ 281474976710656 then (tree_Keeps.l0 k l1 (List.replicate (a0_1 : Int).toNat 0) (List.replicate (a0_1 : Int).toNat 0) bt132.1 0 a0_0 a0_1 l0_2 a0_3) else (none)) else (none)) else (some (false, 4)))) else (some (false, 111))) = some (r1, r2) := H
    have A5 := Aside0.mk A50
    clear A50
    by_cases c6 : t131 = true
    · subst c6
      have H1 : ((tree_rowsOf.f k a0_0 a0_1).bind fun bt132 => (if bt132.2 = true then (if 0 ≤ a0_1 then (if (a0_1 : Int).toNat ≤ 281474976710656 then (tree_Keeps.l0 k l1 (List.replicate (a0_1 : Int).toNat 0) (List.replicate (a0_1 : Int).toNat 0) bt132.1 0 a0_0 a0_1 l0_2 a0_3) else (none)) else (none)) else (some (false, 4)))) = some (r1, r2) := by rw [if_pos rfl] at H; exact H
      clear H
      have H := H1
      clear H1
      replace H := Option.bind_eq_some_iff.mp H
      obtain ⟨⟨t132, t133⟩, A70, H⟩ := H
      replace H : (if t133 = true then (if 0 ≤ a0_1 then (if (a0_1 : Int).toNat ≤ 281474976710656 then (tree_Keeps.l0 k l1 (List.replicate (a0_1 : Int).toNat 0) (List.replicate (a0_1 : Int).toNat 0) t132 0 a0_0 a0_1 l0_2 a0_3) else (none)) else (none)) else (some (false, 4))) = some (r1, r2) := H
      have A7 := Aside0.mk A70
      clear A70
      by_cases c8 : t133 = true
      · subst c8
        have H1 : (if 0 ≤ a0_1 then (if (a0_1 : Int).toNat ≤ 281474976710656 then (tree_Keeps.l0 k l1 (List.replicate (a0_1 : Int).toNat 0) (List.replicate (a0_1 : Int).toNat 0) t132 0 a0_0 a0_1 l0_2 a0_3) else (none)) else (none)) = some (r1, r2) := by rw [if_pos rfl] at H; exact H
        clear H
        have H := H1
        clear H1
        by_cases c9 : 0 ≤ a0_1
        · rw [if_pos c9] at H
          have c9b0 := eq_true c9
          have c9b1 : decide (0 ≤ a0_1) = true := decide_eq_true c9
          clear c9
          by_cases c10 : (a0_1 : Int).toNat ≤ 281474976710656
          · rw [if_pos c10] at H
            have c10b0 := eq_true c10
            have c10b1 : decide ((a0_1 : Int).toNat ≤ 281474976710656) = true := decide_eq_true c10
            clear c10
            obtain ⟨y134, hy134⟩ : ∃ y_ : List Int, y_ = (List.replicate (a0_1 : Int).toNat 0) := ⟨_, rfl⟩
            replace H : (tree_Keeps.l0 k l1 y134 (List.replicate (a0_1 : Int).toNat 0) t132 0 a0_0 a0_1 l0_2 a0_3) = some (r1, r2) := by first | (rw [hy134]; with_reducible exact H) | (have H2_ := (Option.bind_some _ _).symm.trans H; rw [hy134]; with_reducible exact H2_) | (have H2_ := (Option.bind_some _ _).symm.trans H; with_reducible exact H2_) | with_reducible exact H | (rw [hy134]; exact H) | exact H
            have Ny134 := Aside0.mk hy134
            clear hy134
            obtain ⟨y137, hy137⟩ : ∃ y_ : List Int, y_ = (List.replicate (a0_1 : Int).toNat 0) := ⟨_, rfl⟩
            replace H : (tree_Keeps.l0 k l1 y134 y137 t132 0 a0_0 a0_1 l0_2 a0_3) = some (r1, r2) := by first | (rw [hy137]; with_reducible exact H) | (have H2_ := (Option.bind_some _ _).symm.trans H; rw [hy137]; with_reducible exact H2_) | (have H2_ := (Option.bind_some _ _).symm.trans H; with_reducible exact H2_) | with_reducible exact H | (rw [hy137]; exact H) | exact H
            have Ny137 := Aside0.mk hy137
            clear hy137
            have H' := Aside0.mk H
            clear H
            go_enter Tryd.func40, Tryd.ntmps40
            try go_wp2_with (first | ((with_reducible refine gate_dst (N := 2) rfl ?_); refine box_event ?hg (N := 2) ?hd (cs := #[.int .i64 a0_0, .int .i64 a0_1, .slice A0_2 l0_2.length c0_2, .int .i64 a0_3]) (t := 24) ?hr ?_; (case hd => rfl); (case hg => rfl); (case hr => first | (go_simp; done) | (go_simp; rfl)); intro gb129 hg w11 hbox hb; have n0_ := Aside0.mk (below_step (by repeat (first | (with_reducible first | exact HB.out | apply below_alloc | apply pw_below_drewN | apply below_drew1) | exact HB.out)) hb); have n1_ := Aside0.mk (hbox); have n2_ := Aside0.mk ((by rw [hg]; exact (below_size (by repeat (first | (with_reducible first | exact HB.out | apply below_alloc | apply pw_below_drewN | apply below_drew1) | exact HB.out))) : w.heap.size ≤ gb129)); have n3_ := Aside0.mk ((by rw [hg]; exact (below_size (by repeat (first | (with_reducible first | exact HB.out | apply below_alloc | apply pw_below_drewN | apply below_drew1) | exact HB.out))) : w.heap.size ≤ gb129)); clear HB; have HB := n0_; have BK129 := n1_; have GW129 := n2_; have GE129 := n3_; clear n0_ n1_ n2_ n3_; clear hb hbox hg; have hcz12_0 : w11.cell? ⟨gb129, 0, none⟩ = some (.int .i64 a0_0) := (blk_cell BK129.out 0).trans rfl; have hcz12_1 : w11.cell? ⟨gb129, 1, none⟩ = some (.int .i64 a0_1) := (blk_cell BK129.out 1).trans rfl; have hcz12_2 : w11.cell? ⟨gb129, 2, none⟩ = some (.slice A0_2 l0_2.length c0_2) := (blk_cell BK129.out 2).trans rfl; have hcz12_3 : w11.cell? ⟨gb129, 3, none⟩ = some (.int .i64 a0_3) := (blk_cell BK129.out 3).trans rfl; have hfz12_0 := blk_frozen BK129.out 0; have hfz12_1 := blk_frozen BK129.out 1; have hfz12_2 := blk_frozen BK129.out 2; have hfz12_3 := blk_frozen BK129.out 3) | ((with_reducible refine gate_callee (f := 22) rfl ?_); refine goesL_ (some 16) rfl rfl Tryd.func22 (by kernel_rfl) rfl #[.agg #[.int .i64 a0_0, .int .i64 a0_1, .slice A0_2 l0_2.length c0_2, .int .i64 a0_3]] rfl (by (try simp only [List.map_toArray, List.map_cons, List.map_nil]); first | done | rfl | (simp only [List.length_drop, List.length_take]; rfl)) ?_; (with_reducible refine (tree_Check.calls k a0_0 a0_1 _ _ l0_2 a0_3 t130 _ ?side1 ?side2 A3.out).mono ?_); (case side1 => repeat (first | exact (Kd.C_below HR0_2.out HB.out) | (with_reducible refine Kd.C_alloc ?_ _) | (with_reducible refine Kd.C_drewN ?_ _) | (with_reducible refine Kd.C_drew ?_))); (case side2 => exact HC0_2.out); rintro e w13 ⟨rfl, hb⟩; refine ⟨_, rfl, ?_⟩; have n0_ := Aside0.mk (blk_below (g := gb129) (o := .cells #[.int .i64 a0_0, .int .i64 a0_1, .slice A0_2 l0_2.length c0_2, .int .i64 a0_3] 24 (0, 0)) (by (with_reducible repeat (first | refine blk_drewN ?_ _ | refine blk_drew ?_ | refine blk_alloc ?_ _)); exact BK129.out) hb); have n1_ := Aside0.mk (below_step (by repeat (first | (with_reducible first | exact HB.out | apply below_alloc | apply pw_below_drewN | apply below_drew1 | refine below_set ?_ GE129.out) | exact HB.out)) hb); clear BK129; clear HB; have BK129 := n0_; have HB := n1_; clear n0_ n1_; (try clear hb); (try clear hb2); (try clear hk); (try clear hi); have hcz14_0 : w13.cell? ⟨gb129, 0, none⟩ = some (.int .i64 a0_0) := (blk_cell BK129.out 0).trans rfl; have hcz14_1 : w13.cell? ⟨gb129, 1, none⟩ = some (.int .i64 a0_1) := (blk_cell BK129.out 1).trans rfl; have hcz14_2 : w13.cell? ⟨gb129, 2, none⟩ = some (.slice A0_2 l0_2.length c0_2) := (blk_cell BK129.out 2).trans rfl; have hcz14_3 : w13.cell? ⟨gb129, 3, none⟩ = some (.int .i64 a0_3) := (blk_cell BK129.out 3).trans rfl; have hfz14_0 := blk_frozen BK129.out 0; have hfz14_1 := blk_frozen BK129.out 1; have hfz14_2 := blk_frozen BK129.out 2; have hfz14_3 := blk_frozen BK129.out 3) | ((with_reducible refine gate_callee (f := 74) rfl ?_); refine goesL_ (some 23) rfl rfl Tryd.func74 (by kernel_rfl) rfl #[.slice A1 l1.length c1, .int .i64 a0_1] rfl (by (try simp only [List.map_toArray, List.map_cons, List.map_nil]); first | done | rfl | (simp only [List.length_drop, List.length_take]; rfl)) ?_; (with_reducible refine (tree_order.calls k _ _ l1 a0_1 true _ ?side1 ?side2 A5.out).mono ?_); (case side1 => repeat (first | exact (Kd.C_below HR1.out HB.out) | (with_reducible refine Kd.C_alloc ?_ _) | (with_reducible refine Kd.C_drewN ?_ _) | (with_reducible refine Kd.C_drew ?_))); (case side2 => exact HC1.out); rintro e w15 ⟨rfl, hb⟩; refine ⟨_, rfl, ?_⟩; have n0_ := Aside0.mk (blk_below (g := gb129) (o := .cells #[.int .i64 a0_0, .int .i64 a0_1, .slice A0_2 l0_2.length c0_2, .int .i64 a0_3] 24 (0, 0)) (by (with_reducible repeat (first | refine blk_drewN ?_ _ | refine blk_drew ?_ | refine blk_alloc ?_ _)); exact BK129.out) hb); have n1_ := Aside0.mk (below_step (by repeat (first | (with_reducible first | exact HB.out | apply below_alloc | apply pw_below_drewN | apply below_drew1 | refine below_set ?_ GE129.out) | exact HB.out)) hb); clear BK129; clear HB; have BK129 := n0_; have HB := n1_; clear n0_ n1_; (try clear hb); (try clear hb2); (try clear hk); (try clear hi); have hcz16_0 : w15.cell? ⟨gb129, 0, none⟩ = some (.int .i64 a0_0) := (blk_cell BK129.out 0).trans rfl; have hcz16_1 : w15.cell? ⟨gb129, 1, none⟩ = some (.int .i64 a0_1) := (blk_cell BK129.out 1).trans rfl; have hcz16_2 : w15.cell? ⟨gb129, 2, none⟩ = some (.slice A0_2 l0_2.length c0_2) := (blk_cell BK129.out 2).trans rfl; have hcz16_3 : w15.cell? ⟨gb129, 3, none⟩ = some (.int .i64 a0_3) := (blk_cell BK129.out 3).trans rfl; have hfz16_0 := blk_frozen BK129.out 0; have hfz16_1 := blk_frozen BK129.out 1; have hfz16_2 := blk_frozen BK129.out 2; have hfz16_3 := blk_frozen BK129.out 3) | ((with_reducible refine gate_callee (f := 70) rfl ?_); refine goesL_ (some 30) rfl rfl Tryd.func70 (by kernel_rfl) rfl #[.int .i64 a0_0, .int .i64 a0_1] rfl (by (try simp only [List.map_toArray, List.map_cons, List.map_nil]); first | done | rfl | (simp only [List.length_drop, List.length_take]; rfl)) ?_; (with_reducible refine (tree_rowsOf.calls k a0_0 a0_1 t132 true _ A7.out).mono ?_); rintro e w' ⟨rfl, ⟨nd, rfl⟩⟩; refine ⟨_, rfl, ?_⟩))
            (try (rw [drewN_self w15]; generalize hq_ : World.drewN w15 _ = w15; have n0_ : Aside0 (w15.heap[gb129]? = some (.cells #[.int .i64 a0_0, .int .i64 a0_1, .slice A0_2 l0_2.length c0_2, .int .i64 a0_3] 24 (0, 0))) := ⟨by rw [← hq_]; exact (by (with_reducible repeat (first | refine blk_drewN ?_ _ | refine blk_drew ?_ | refine blk_alloc ?_ _)); exact BK129.out)⟩; have n1_ : Aside0 (Below w.heap.size w w15) := ⟨by rw [← hq_]; exact (by repeat (first | (with_reducible first | exact HB.out | apply below_alloc | apply pw_below_drewN | apply below_drew1 | refine below_set ?_ GE129.out) | exact HB.out))⟩; clear BK129 HB hq_; have BK129 := n0_; have HB := n1_; clear n0_ n1_))
            have n0_ := Aside0.mk (blk_drew BK129.out)
            have n1_ := Aside0.mk (below_drew1 HB.out)
            clear BK129
            clear HB
            have BK129 := n0_
            have HB := n1_
            clear n0_ n1_
            refine start_ (n := 8) (S := fun w' => w'.cell? ⟨gb129, 0, none⟩ = some (.int .i64 a0_0) ∧ w'.cell? ⟨gb129, 1, none⟩ = some (.int .i64 a0_1) ∧ w'.cell? ⟨gb129, 2, none⟩ = some (.slice A0_2 l0_2.length c0_2) ∧ w'.cell? ⟨gb129, 3, none⟩ = some (.int .i64 a0_3)) (ds := []) #[false, false, false, false, false, false, false, false] (by kernel_rfl) rfl rfl ⟨(blk_cell BK129.out 0).trans rfl, (blk_cell BK129.out 1).trans rfl, (blk_cell BK129.out 2).trans rfl, (blk_cell BK129.out 3).trans rfl⟩ (fun hHeld => ?_); refine with_tabW tree_Keeps.tab9 tree_Keeps.bits9 (fun HT_ HW_ => ?_)
            generalize w15.drew = w17 at BK129 HB hHeld ⊢
            refine pure_ (i := 0) (N := some 35) (v := ?_) (a' := ?_) #[true, false, false, false, false, false, false, false] rfl rfl (any_of HT_.out (by kernel_rfl)) (fun _ _ _ h => h) (Or.inl ⟨by rfl, ?_⟩) ?_ ?_
            rotate_left
            · intro w'
              go_simp
              with_reducible rfl
            rotate_left
            · simp only [Act.put, List.setIfInBounds_toArray, List.set_cons_zero, List.set_cons_succ, i64_w, i32_w]
              rfl
            refine pure_ (i := 3) (N := some 38) (v := ?_) (a' := ?_) #[true, false, false, true, false, false, false, false] rfl rfl (any_of HT_.out (by kernel_rfl)) (fun _ _ _ h => h) (Or.inl ⟨by rfl, ?_⟩) ?_ ?_
            rotate_left
            · intro w'
              go_simp
              with_reducible rfl
            rotate_left
            · simp only [Act.put, List.setIfInBounds_toArray, List.set_cons_zero, List.set_cons_succ, i64_w, i32_w]
              rfl
            refine take_ (i := 1) (N := some 36) (v := ?_) (a' := ?_) #[true, true, false, true, false, false, false, false] rfl rfl (take_ofW HT_.out HW_.out (by kernel_rfl)) (fun _ _ _ h => h) (Or.inl ⟨by rfl, ?_⟩) hHeld ?_ ?_
            rotate_left
            · rintro w' ⟨s0, s1, s2, s3⟩
              go_simp
              with_reducible rfl
            rotate_left
            · simp only [Act.put, List.setIfInBounds_toArray, List.set_cons_zero, List.set_cons_succ, i64_w, i32_w]
              rfl
            refine take_ (i := 4) (N := some 39) (v := ?_) (a' := ?_) #[true, true, false, true, true, false, false, false] rfl rfl (take_ofW HT_.out HW_.out (by kernel_rfl)) (fun _ _ _ h => h) (Or.inl ⟨by rfl, ?_⟩) hHeld ?_ ?_
            rotate_left
            · rintro w' ⟨s0, s1, s2, s3⟩
              go_simp
              with_reducible rfl
            rotate_left
            · simp only [Act.put, List.setIfInBounds_toArray, List.set_cons_zero, List.set_cons_succ, i64_w, i32_w]
              rfl
            refine join_ (σ := Value × Value) 1 #[true, true, true, true, true, true, true, false] (fun s_ => [(37, s_.1), (40, s_.2), (9, s_.1)]) (fun s_ w' => (w'.cell? ⟨gb129, 0, none⟩ = some (.int .i64 a0_0) ∧ w'.cell? ⟨gb129, 1, none⟩ = some (.int .i64 a0_1) ∧ w'.cell? ⟨gb129, 2, none⟩ = some (.slice A0_2 l0_2.length c0_2) ∧ w'.cell? ⟨gb129, 3, none⟩ = some (.int .i64 a0_3)) ∧ (Kd.R (Kd.int .u8) 5 w' w.heap.size (fun k_ => some k_ ≠ (s_.2 : Value).ownBlock) s_.1 y134) ∧ (Kd.R (Kd.int .u8) 5 w' w.heap.size (fun k_ => some k_ ≠ (s_.1 : Value).ownBlock) s_.2 y137) ∧ (w'.heap[gb129]? = some (.cells #[.int .i64 a0_0, .int .i64 a0_1, .slice A0_2 l0_2.length c0_2, .int .i64 a0_3] 24 (0, 0))) ∧ (Below w.heap.size w w')) ?_ ?_
            rotate_left
            · intro hCont
              refine two_ (i := 2) (j := 5) (Ni := some 37) (Nj := some 40) #[true, true, true, true, true, false, false, false] #[true, true, false, true, true, true, false, false] rfl rfl rfl rfl (two_of HT_.out (by kernel_rfl)) (by decide) (by decide) (fun K hK => ?_) (fun K hK => ?_)
              · skip
                refine Kd.R_make_step (Kd.int .u8) _ 5 (by rfl) (N := 37) rfl 33 _ _ rfl a0_1 rfl rfl Tryd.underlying33 (.int .u8 0) 1 info5 rfl (by decide) (by omega) 0 (ok := fun _ => True) (okp := fun _ => True) rfl (fun _ hk => hk) trivial (of_decide_eq_true (by first | (with_reducible assumption) | assumption)) (Nat.le_trans (Nat.mul_le_mul_right _ (of_decide_eq_true (by first | (with_reducible assumption) | assumption) : a0_1.toNat ≤ 281474976710656)) (by omega)) (Below.refl _ _) (Nat.le_refl _) ?_
                intro v135 w18 ho19 hb hg_ hnew_
                clear hg_ hnew_
                (first | rw [← Ny134.out] at ho19 | (simp only [Int.reduceToNat] at ho19; rw [← Ny134.out] at ho19))
                have n0_ := Aside0.mk (Kd.R_lower ho19 (below_size (by repeat (first | (with_reducible first | exact HB.out | apply below_alloc | apply pw_below_drewN | apply below_drew1 | refine below_set ?_ GE129.out) | exact HB.out))))
                have n1_ := Aside0.mk (blk_below (g := gb129) (o := .cells #[.int .i64 a0_0, .int .i64 a0_1, .slice A0_2 l0_2.length c0_2, .int .i64 a0_3] 24 (0, 0)) (by (with_reducible repeat (first | refine blk_drewN ?_ _ | refine blk_drew ?_ | refine blk_alloc ?_ _)); exact BK129.out) hb)
                have n2_ := Aside0.mk (below_step (by repeat (first | (with_reducible first | exact HB.out | apply below_alloc | apply pw_below_drewN | apply below_drew1 | refine below_set ?_ GE129.out) | exact HB.out)) hb)
                clear BK129
                clear HB
                have HO136 := n0_
                have BK129 := n1_
                have HB := n2_
                clear n0_ n1_ n2_
                clear hb ho19
                refine hK.out _ _ ⟨(blk_cell BK129.out 0).trans rfl, (blk_cell BK129.out 1).trans rfl, (blk_cell BK129.out 2).trans rfl, (blk_cell BK129.out 3).trans rfl⟩ (fun hHeld => ?_)
                clear hK K
                refine norm_ (a' := ?_) ?_ ?_
                rotate_left
                · show Act.put _ (some 37) _ = _
                  simp only [Act.put, List.setIfInBounds_toArray, List.set_cons_zero, List.set_cons_succ, i64_w, i32_w]
                  rfl
                refine pure_ (i := 6) (N := some 9) (v := ?_) (a' := ?_) #[true, true, true, true, true, false, true, false] rfl rfl (any_of HT_.out (by kernel_rfl)) (fun _ _ _ h => h) (Or.inl ⟨by rfl, ?_⟩) ?_ ?_
                rotate_left
                · intro w'
                  go_simp
                  with_reducible rfl
                rotate_left
                · simp only [Act.put, List.setIfInBounds_toArray, List.set_cons_zero, List.set_cons_succ, i64_w, i32_w]
                  rfl
                refine one_ (i := 5) (N := some 40) #[true, true, true, true, true, true, true, false] rfl rfl (one_of HT_.out (by kernel_rfl)) (by decide) (fun K hK => ?_)
                refine Kd.R_make_step (Kd.int .u8) _ 5 (by rfl) (N := 40) rfl 33 _ _ rfl a0_1 rfl rfl Tryd.underlying33 (.int .u8 0) 1 info5 rfl (by decide) (by omega) 0 (ok := fun _ => True) (okp := fun _ => True) rfl (fun _ hk => hk) trivial (of_decide_eq_true (by first | (with_reducible assumption) | assumption)) (Nat.le_trans (Nat.mul_le_mul_right _ (of_decide_eq_true (by first | (with_reducible assumption) | assumption) : a0_1.toNat ≤ 281474976710656)) (by omega)) (Below.refl _ _) (Nat.le_refl _) ?_
                intro v138 w20 ho21 hb hg_ hnew_
                clear hg_ hnew_
                (first | rw [← Ny137.out] at ho21 | (simp only [Int.reduceToNat] at ho21; rw [← Ny137.out] at ho21))
                have n0_ := Aside0.mk (Kd.R_elder' (by (with_reducible repeat (first | apply Kd.R_alloc | apply Kd.R_drewN | apply Kd.R_drew)); exact HO136.out) (Kd.R_base ho21) hb)
                have n1_ := Aside0.mk (Kd.R_lower (Kd.R_new' ho21 (Kd.R_lt (by (with_reducible repeat (first | apply Kd.R_alloc | apply Kd.R_drewN | apply Kd.R_drew)); exact HO136.out))) (below_size (by repeat (first | (with_reducible first | exact HB.out | apply below_alloc | apply pw_below_drewN | apply below_drew1 | refine below_set ?_ GE129.out) | exact HB.out))))
                have n2_ := Aside0.mk (blk_below (g := gb129) (o := .cells #[.int .i64 a0_0, .int .i64 a0_1, .slice A0_2 l0_2.length c0_2, .int .i64 a0_3] 24 (0, 0)) (by (with_reducible repeat (first | refine blk_drewN ?_ _ | refine blk_drew ?_ | refine blk_alloc ?_ _)); exact BK129.out) hb)
                have n3_ := Aside0.mk (below_step (by repeat (first | (with_reducible first | exact HB.out | apply below_alloc | apply pw_below_drewN | apply below_drew1 | refine below_set ?_ GE129.out) | exact HB.out)) hb)
                clear HO136
                clear BK129
                clear HB
                have HO136 := n0_
                have HO139 := n1_
                have BK129 := n2_
                have HB := n3_
                clear n0_ n1_ n2_ n3_
                clear hb ho21
                refine hK.out _ _ ⟨(blk_cell BK129.out 0).trans rfl, (blk_cell BK129.out 1).trans rfl, (blk_cell BK129.out 2).trans rfl, (blk_cell BK129.out 3).trans rfl⟩ (fun hHeld => ?_)
                clear hK K
                refine norm_ (a' := ?_) ?_ ?_
                rotate_left
                · show Act.put _ (some 40) _ = _
                  simp only [Act.put, List.setIfInBounds_toArray, List.set_cons_zero, List.set_cons_succ, i64_w, i32_w]
                  rfl
                exact norm_ (by simp only [putAll, Act.put, List.setIfInBounds_toArray, List.set_cons_zero, List.set_cons_succ]) (hCont (v135, v138) _ ⟨hHeld, (by (with_reducible repeat (first | apply Kd.R_alloc | apply Kd.R_drewN | apply Kd.R_drew)); exact Kd.R_mono HO136.out (fun _ hk => hk.2)), (by (with_reducible repeat (first | apply Kd.R_alloc | apply Kd.R_drewN | apply Kd.R_drew)); exact Kd.R_mono HO139.out (fun _ hk => hk.2)), (by (with_reducible repeat (first | refine blk_drewN ?_ _ | refine blk_drew ?_ | refine blk_alloc ?_ _)); exact BK129.out), (by repeat (first | (with_reducible first | exact HB.out | apply below_alloc | apply pw_below_drewN | apply below_drew1 | refine below_set ?_ GE129.out) | exact HB.out))⟩)
              · skip
                refine Kd.R_make_step (Kd.int .u8) _ 5 (by rfl) (N := 40) rfl 33 _ _ rfl a0_1 rfl rfl Tryd.underlying33 (.int .u8 0) 1 info5 rfl (by decide) (by omega) 0 (ok := fun _ => True) (okp := fun _ => True) rfl (fun _ hk => hk) trivial (of_decide_eq_true (by first | (with_reducible assumption) | assumption)) (Nat.le_trans (Nat.mul_le_mul_right _ (of_decide_eq_true (by first | (with_reducible assumption) | assumption) : a0_1.toNat ≤ 281474976710656)) (by omega)) (Below.refl _ _) (Nat.le_refl _) ?_
                intro v138 w18 ho19 hb hg_ hnew_
                clear hg_ hnew_
                (first | rw [← Ny137.out] at ho19 | (simp only [Int.reduceToNat] at ho19; rw [← Ny137.out] at ho19))
                have n0_ := Aside0.mk (Kd.R_lower ho19 (below_size (by repeat (first | (with_reducible first | exact HB.out | apply below_alloc | apply pw_below_drewN | apply below_drew1 | refine below_set ?_ GE129.out) | exact HB.out))))
                have n1_ := Aside0.mk (blk_below (g := gb129) (o := .cells #[.int .i64 a0_0, .int .i64 a0_1, .slice A0_2 l0_2.length c0_2, .int .i64 a0_3] 24 (0, 0)) (by (with_reducible repeat (first | refine blk_drewN ?_ _ | refine blk_drew ?_ | refine blk_alloc ?_ _)); exact BK129.out) hb)
                have n2_ := Aside0.mk (below_step (by repeat (first | (with_reducible first | exact HB.out | apply below_alloc | apply pw_below_drewN | apply below_drew1 | refine below_set ?_ GE129.out) | exact HB.out)) hb)
                clear BK129
                clear HB
                have HO139 := n0_
                have BK129 := n1_
                have HB := n2_
                clear n0_ n1_ n2_
                clear hb ho19
                refine hK.out _ _ ⟨(blk_cell BK129.out 0).trans rfl, (blk_cell BK129.out 1).trans rfl, (blk_cell BK129.out 2).trans rfl, (blk_cell BK129.out 3).trans rfl⟩ (fun hHeld => ?_)
                clear hK K
                refine norm_ (a' := ?_) ?_ ?_
                rotate_left
                · show Act.put _ (some 40) _ = _
                  simp only [Act.put, List.setIfInBounds_toArray, List.set_cons_zero, List.set_cons_succ, i64_w, i32_w]
                  rfl
                refine one_ (i := 2) (N := some 37) #[true, true, true, true, true, true, false, false] rfl rfl (one_of HT_.out (by kernel_rfl)) (by decide) (fun K hK => ?_)
                refine Kd.R_make_step (Kd.int .u8) _ 5 (by rfl) (N := 37) rfl 33 _ _ rfl a0_1 rfl rfl Tryd.underlying33 (.int .u8 0) 1 info5 rfl (by decide) (by omega) 0 (ok := fun _ => True) (okp := fun _ => True) rfl (fun _ hk => hk) trivial (of_decide_eq_true (by first | (with_reducible assumption) | assumption)) (Nat.le_trans (Nat.mul_le_mul_right _ (of_decide_eq_true (by first | (with_reducible assumption) | assumption) : a0_1.toNat ≤ 281474976710656)) (by omega)) (Below.refl _ _) (Nat.le_refl _) ?_
                intro v135 w20 ho21 hb hg_ hnew_
                clear hg_ hnew_
                (first | rw [← Ny134.out] at ho21 | (simp only [Int.reduceToNat] at ho21; rw [← Ny134.out] at ho21))
                have n0_ := Aside0.mk (Kd.R_elder' (by (with_reducible repeat (first | apply Kd.R_alloc | apply Kd.R_drewN | apply Kd.R_drew)); exact HO139.out) (Kd.R_base ho21) hb)
                have n1_ := Aside0.mk (Kd.R_lower (Kd.R_new' ho21 (Kd.R_lt (by (with_reducible repeat (first | apply Kd.R_alloc | apply Kd.R_drewN | apply Kd.R_drew)); exact HO139.out))) (below_size (by repeat (first | (with_reducible first | exact HB.out | apply below_alloc | apply pw_below_drewN | apply below_drew1 | refine below_set ?_ GE129.out) | exact HB.out))))
                have n2_ := Aside0.mk (blk_below (g := gb129) (o := .cells #[.int .i64 a0_0, .int .i64 a0_1, .slice A0_2 l0_2.length c0_2, .int .i64 a0_3] 24 (0, 0)) (by (with_reducible repeat (first | refine blk_drewN ?_ _ | refine blk_drew ?_ | refine blk_alloc ?_ _)); exact BK129.out) hb)
                have n3_ := Aside0.mk (below_step (by repeat (first | (with_reducible first | exact HB.out | apply below_alloc | apply pw_below_drewN | apply below_drew1 | refine below_set ?_ GE129.out) | exact HB.out)) hb)
                clear HO139
                clear BK129
                clear HB
                have HO139 := n0_
                have HO136 := n1_
                have BK129 := n2_
                have HB := n3_
                clear n0_ n1_ n2_ n3_
                clear hb ho21
                refine hK.out _ _ ⟨(blk_cell BK129.out 0).trans rfl, (blk_cell BK129.out 1).trans rfl, (blk_cell BK129.out 2).trans rfl, (blk_cell BK129.out 3).trans rfl⟩ (fun hHeld => ?_)
                clear hK K
                refine norm_ (a' := ?_) ?_ ?_
                rotate_left
                · show Act.put _ (some 37) _ = _
                  simp only [Act.put, List.setIfInBounds_toArray, List.set_cons_zero, List.set_cons_succ, i64_w, i32_w]
                  rfl
                refine pure_ (i := 6) (N := some 9) (v := ?_) (a' := ?_) #[true, true, true, true, true, true, true, false] rfl rfl (any_of HT_.out (by kernel_rfl)) (fun _ _ _ h => h) (Or.inl ⟨by rfl, ?_⟩) ?_ ?_
                rotate_left
                · intro w'
                  go_simp
                  with_reducible rfl
                rotate_left
                · simp only [Act.put, List.setIfInBounds_toArray, List.set_cons_zero, List.set_cons_succ, i64_w, i32_w]
                  rfl
                exact norm_ (by simp only [putAll, Act.put, List.setIfInBounds_toArray, List.set_cons_zero, List.set_cons_succ]) (hCont (v135, v138) _ ⟨hHeld, (by (with_reducible repeat (first | apply Kd.R_alloc | apply Kd.R_drewN | apply Kd.R_drew)); exact Kd.R_mono HO136.out (fun _ hk => hk.2)), (by (with_reducible repeat (first | apply Kd.R_alloc | apply Kd.R_drewN | apply Kd.R_drew)); exact Kd.R_mono HO139.out (fun _ hk => hk.2)), (by (with_reducible repeat (first | refine blk_drewN ?_ _ | refine blk_drew ?_ | refine blk_alloc ?_ _)); exact BK129.out), (by repeat (first | (with_reducible first | exact HB.out | apply below_alloc | apply pw_below_drewN | apply below_drew1 | refine below_set ?_ GE129.out) | exact HB.out))⟩)
            rintro ⟨v135, v138⟩ w22 ⟨hS_, h0_, h1_, h2_, h3_⟩
            have n0_ : Aside0 (Kd.R (Kd.int .u8) 5 w22 w.heap.size (fun k_ => some k_ ≠ (v138 : Value).ownBlock) v135 y134) := ⟨h0_⟩
            have n1_ : Aside0 (Kd.R (Kd.int .u8) 5 w22 w.heap.size (fun k_ => some k_ ≠ (v135 : Value).ownBlock) v138 y137) := ⟨h1_⟩
            have n2_ : Aside0 (w22.heap[gb129]? = some (.cells #[.int .i64 a0_0, .int .i64 a0_1, .slice A0_2 l0_2.length c0_2, .int .i64 a0_3] 24 (0, 0))) := ⟨h2_⟩
            have n3_ : Aside0 (Below w.heap.size w w22) := ⟨h3_⟩
            clear BK129
            clear HB
            clear h0_ h1_ h2_ h3_
            have HO136 := n0_
            have HO139 := n1_
            have BK129 := n2_
            have HB := n3_
            clear n0_ n1_ n2_ n3_
            have hHeld : w22.cell? ⟨gb129, 0, none⟩ = some (.int .i64 a0_0) ∧ w22.cell? ⟨gb129, 1, none⟩ = some (.int .i64 a0_1) ∧ w22.cell? ⟨gb129, 2, none⟩ = some (.slice A0_2 l0_2.length c0_2) ∧ w22.cell? ⟨gb129, 3, none⟩ = some (.int .i64 a0_3) := hS_
            refine norm_ (a' := ?_) ?_ ?_
            rotate_left
            · simp only [putAll, Act.put, List.setIfInBounds_toArray, List.set_cons_zero, List.set_cons_succ]
              rfl
            refine pure_ (i := 7) (N := some 10) (v := ?_) (a' := ?_) #[true, true, true, true, true, true, true, true] rfl rfl (any_of HT_.out (by kernel_rfl)) (fun _ _ _ h => h) (Or.inl ⟨by rfl, ?_⟩) ?_ ?_
            rotate_left
            · intro w'
              go_simp
              with_reducible rfl
            rotate_left
            · simp only [Act.put, List.setIfInBounds_toArray, List.set_cons_zero, List.set_cons_succ, i64_w, i32_w]
              rfl
            refine done_ (done_of HT_.out (by kernel_rfl)) ?_
            try go_wp2
            go_loopg [42] k (fun kq v42 w' => ∃ (x9_1 : List Int) (x10_1 : List Int) (x42_1 : Int), v42 = .int .i64 x42_1 ∧ Aside0 (tree_Keeps.l0 kq l1 x9_1 x10_1 t132 x42_1 a0_0 a0_1 l0_2 a0_3 = some (r1, r2)) ∧ Aside0 (kq ≤ k) ∧ Aside0 (Kd.R (Kd.int .u8) 5 w' w.heap.size (fun k_ => some k_ ≠ (v138 : Value).ownBlock) v135 x9_1) ∧ Aside0 (Kd.R (Kd.int .u8) 5 w' w.heap.size (fun k_ => some k_ ≠ (v135 : Value).ownBlock) v138 x10_1) ∧ Aside0 (w'.heap[gb129]? = some (.cells #[.int .i64 a0_0, .int .i64 a0_1, (.slice A0_2 l0_2.length c0_2), .int .i64 a0_3] 24 (0, 0))) ∧ Aside0 (Below w.heap.size w w'))
            case atStart => exact ⟨(y134), (y137), (0), (by first | rfl | (simp; done) | (simp [*]; done) | (simp [wrap64]; done)), H', ⟨Nat.le_refl _⟩, ⟨by (with_reducible repeat (first | apply Kd.R_alloc | apply Kd.R_drewN | apply Kd.R_drew)); exact HO136.out⟩, ⟨by (with_reducible repeat (first | apply Kd.R_alloc | apply Kd.R_drewN | apply Kd.R_drew)); exact HO139.out⟩, ⟨by (with_reducible repeat (first | refine blk_drewN ?_ _ | refine blk_drew ?_ | refine blk_alloc ?_ _)); exact BK129.out⟩, ⟨by repeat (first | (with_reducible first | exact HB.out | apply below_alloc | apply pw_below_drewN | apply below_drew1 | refine below_set ?_ GE129.out) | exact HB.out)⟩⟩
            case round =>
              clear H'
              try clear c1
              try clear c2
              try clear p2
              try clear c4
              try clear c4b0
              try clear c4b1
              try clear c6
              try clear c7
              try clear c8
              try clear c9
              try clear c9b0
              try clear c9b1
              try clear c10
              try clear c10b0
              try clear c10b1
              try clear c22
              try clear hcz12_0
              try clear hcz12_1
              try clear hcz12_2
              try clear hcz12_3
              try clear hcz14_0
              try clear hcz14_1
              try clear hcz14_2
              try clear hcz14_3
              try clear hcz16_0
              try clear hcz16_1
              try clear hcz16_2
              try clear hcz16_3
              try clear hfz12_0
              try clear hfz12_1
              try clear hfz12_2
              try clear hfz12_3
              try clear hfz14_0
              try clear hfz14_1
              try clear hfz14_2
              try clear hfz14_3
              try clear hfz16_0
              try clear hfz16_1
              try clear hfz16_2
              try clear hfz16_3
              obtain ⟨x9_1, x10_1, x42_1, rfl, HA, HK1, HO_9, HO_10, BK129, HB⟩ := hrel
              cases gk with
              | zero => exact absurd HA.out (by simp [tree_Keeps.l0])
              | succ k1 =>
                have H := HA.out
                clear HA
                simp only [tree_Keeps.l0] at H
                by_cases c23 : x42_1 < t132
                · rw [if_pos c23] at H
                  have c23b0 : decide (x42_1 < t132) = true := decide_eq_true c23
                  clear c23
                  have H' := Aside0.mk H
                  clear H
                  obtain ⟨Ao24, co24, eo24⟩ := Kd.R_slice HO_9.out
                  subst eo24
                  go_wp2
                  go_loopg [11, 47] k1 (fun kq v11 v47 w' => ∃ (x9_2 : List Int) (x11_2 : Int) (x47_2 : Int), v11 = .int .i64 x11_2 ∧ v47 = .int .i64 x47_2 ∧ Aside0 (tree_Keeps.l1 kq l1 x9_2 x10_1 x11_2 t132 x42_1 (x9_1.length : Int) x47_2 a0_0 a0_1 l0_2 a0_3 = some (r1, r2)) ∧ Aside0 (kq ≤ k1) ∧ Aside0 (Kd.R (Kd.int .u8) 5 w' w.heap.size (fun k_ => some k_ ≠ (v138 : Value).ownBlock) (.slice Ao24 x9_1.length co24) x9_2) ∧ Aside0 (Kd.R (Kd.int .u8) 5 w' w.heap.size (fun k_ => some k_ ≠ ((.slice Ao24 x9_1.length co24) : Value).ownBlock) v138 x10_1) ∧ Aside0 (w'.heap[gb129]? = some (.cells #[.int .i64 a0_0, .int .i64 a0_1, (.slice A0_2 l0_2.length c0_2), .int .i64 a0_3] 24 (0, 0))) ∧ Aside0 (Below w.heap.size w w'))
                  case atStart => exact ⟨(x9_1), (x42_1), (0), (by first | rfl | (simp; done) | (simp [*]; done) | (simp [wrap64]; done)), (by first | rfl | (simp; done) | (simp [*]; done) | (simp [wrap64]; done)), H', ⟨Nat.le_refl _⟩, ⟨by (with_reducible repeat (first | apply Kd.R_alloc | apply Kd.R_drewN | apply Kd.R_drew)); exact HO_9.out⟩, ⟨by (with_reducible repeat (first | apply Kd.R_alloc | apply Kd.R_drewN | apply Kd.R_drew)); exact HO_10.out⟩, ⟨by (with_reducible repeat (first | refine blk_drewN ?_ _ | refine blk_drew ?_ | refine blk_alloc ?_ _)); exact BK129.out⟩, ⟨by repeat (first | (with_reducible first | exact HB.out | apply below_alloc | apply pw_below_drewN | apply below_drew1 | refine below_set ?_ GE129.out) | exact HB.out)⟩⟩
                  case round =>
                    clear H'
                    try clear c1
                    try clear c2
                    try clear p2
                    try clear c4
                    try clear c4b0
                    try clear c4b1
                    try clear c6
                    try clear c7
                    try clear c8
                    try clear c9
                    try clear c9b0
                    try clear c9b1
                    try clear c10
                    try clear c10b0
                    try clear c10b1
                    try clear c22
                    try clear c23
                    try clear c23b0
                    try clear hcz12_0
                    try clear hcz12_1
                    try clear hcz12_2
                    try clear hcz12_3
                    try clear hcz14_0
                    try clear hcz14_1
                    try clear hcz14_2
                    try clear hcz14_3
                    try clear hcz16_0
                    try clear hcz16_1
                    try clear hcz16_2
                    try clear hcz16_3
                    try clear hfz12_0
                    try clear hfz12_1
                    try clear hfz12_2
                    try clear hfz12_3
                    try clear hfz14_0
                    try clear hfz14_1
                    try clear hfz14_2
                    try clear hfz14_3
                    try clear hfz16_0
                    try clear hfz16_1
                    try clear hfz16_2
                    try clear hfz16_3
                    try clear p2
                    obtain ⟨x9_2, x11_2, x47_2, rfl, rfl, HA, HK2, HO_9, HO_10, BK129, HB⟩ := hrel
                    have hl9_2 := (Kd.R_reads' HO_9.out).1
                    rw [hl9_2] at HO_9
                    (try simp only [hl9_2])
                    (try simp only [hl9_2] at BK129)
                    (try simp only [hl9_2] at HO_10)
                    cases gk with
                    | zero => exact absurd HA.out (by simp [tree_Keeps.l1])
                    | succ k2 =>
                      have H := HA.out
                      clear HA
                      simp only [tree_Keeps.l1] at H
                      by_cases c25 : x47_2 < (x9_1.length : Int)
                      · rw [if_pos c25] at H
                        have c25b0 : decide (x47_2 < (x9_1.length : Int)) = true := decide_eq_true c25
                        clear c25
                        by_cases c26 : a0_0 = 0
                        · rw [if_pos c26] at H
                          exact absurd H (by simp)
                        · rw [if_neg c26] at H
                          have c26b0 : (a0_0 == 0) = false := beq_eq_false_iff_ne.mpr c26
                          have c26b1 : (a0_0 != 0) = true := bne_iff_ne.mpr c26
                          by_cases c27 : 0 ≤ x47_2
                          · rw [if_pos c27] at H
                            have c27b0 : decide (0 ≤ x47_2) = true := decide_eq_true c27
                            clear c27
                            by_cases c28 : x47_2 < (x9_2.length : Int)
                            · rw [if_pos c28] at H
                              have c28b0 : decide (x47_2 < (x9_2.length : Int)) = true := decide_eq_true c28
                              clear c28
                              obtain ⟨y140, hy140⟩ : ∃ y_ : List Int, y_ = (x9_2.set (x47_2 : Int).toNat ((Int.tmod x11_2 a0_0) % 256)) := ⟨_, rfl⟩
                              replace H : (tree_Keeps.l1 k2 l1 y140 x10_1 (wrap64 (Int.tdiv x11_2 a0_0)) t132 x42_1 (x9_1.length : Int) (wrap64 (x47_2 + 1)) a0_0 a0_1 l0_2 a0_3) = some (r1, r2) := by first | (rw [hy140]; with_reducible exact H) | (have H2_ := (Option.bind_some _ _).symm.trans H; rw [hy140]; with_reducible exact H2_) | (have H2_ := (Option.bind_some _ _).symm.trans H; with_reducible exact H2_) | with_reducible exact H | (rw [hy140]; exact H) | exact H
                              have Ny140 := Aside0.mk hy140
                              clear hy140
                              have H' := Aside0.mk H
                              clear H
                              have hcz30_0 : wr.cell? ⟨gb129, 0, none⟩ = some (.int .i64 a0_0) := (blk_cell BK129.out 0).trans rfl
                              have hcz30_1 : wr.cell? ⟨gb129, 1, none⟩ = some (.int .i64 a0_1) := (blk_cell BK129.out 1).trans rfl
                              have hcz30_2 : wr.cell? ⟨gb129, 2, none⟩ = some (.slice A0_2 l0_2.length c0_2) := (blk_cell BK129.out 2).trans rfl
                              have hcz30_3 : wr.cell? ⟨gb129, 3, none⟩ = some (.int .i64 a0_3) := (blk_cell BK129.out 3).trans rfl
                              have hfz30_0 := blk_frozen BK129.out 0
                              have hfz30_1 := blk_frozen BK129.out 1
                              have hfz30_2 := blk_frozen BK129.out 2
                              have hfz30_3 := blk_frozen BK129.out 3
                              have p29 : 0 ≤ (x47_2 : Int) := of_decide_eq_true (by first | (with_reducible assumption) | assumption)
                              have q29 : (x47_2 : Int) < ((x9_2.length : Int) : Int) := of_decide_eq_true (by first | (with_reducible assumption) | assumption)
                              obtain ⟨go29, co29, eo29, gb29, gl29, cl29, HG29⟩ := Kd.R_form HO_9.out (by omega)
                              (first | cases eo29 | (injection eo29 with ea_ en_ ec_; (first | subst ea_ | (injection ea_ with ea_; subst ea_)); subst ec_; clear en_))
                              have GB29 := Aside0.mk gb29
                              have GG29 := Aside0.mk HG29
                              clear gb29 gl29 HG29
                              obtain ⟨hx29_0, hf29_0⟩ := Kd.R_celln 0 HO_9.out (x47_2 : Int) p29 q29
                              replace p29 := eq_true p29
                              replace q29 := eq_true q29
                              have HP31 := Kd.R_putg HO_9.out (x47_2 : Int) ((Int.tmod x11_2 a0_0) % 256)
                              go_wp2_with (first | ((with_reducible refine gate_store (t := 5) (p := 57) rfl ?_); refine store_event (t := 5) (p := 57) (v := ?vo_w32) (w1 := (wr.setCell ⟨go29, (x47_2 : Int).toNat, none⟩ (.int .u8 ((Int.tmod x11_2 a0_0) % 256)))) ?hg ?ho ?hn ?hr ?_; (case ho => rfl); (case hg => rfl); (case hn => rfl); (case hr => first | (go_simp; done) | (go_simp; rfl)); intro w32 hw; have hg : wr.grownBy w32 (some go29) := (by rw [hw]; exact HP31.2); have hp_ : Kd.R (Kd.int .u8) 5 w32 w.heap.size (fun k_ => some k_ ≠ (v138 : Value).ownBlock) (.slice (some ⟨go29, 0, none⟩) x9_2.length co24) y140 := (by rw [hw, Ny140.out]; exact HP31.1); clear HP31; have n0_ := Aside0.mk (hp_); have n1_ := Aside0.mk (Kd.R_after (v := (.slice (some ⟨go29, 0, none⟩) x9_2.length co24)) (v1 := (.slice (some ⟨go29, 0, none⟩) x9_2.length co24)) (ok := (fun _ => True)) (by (with_reducible repeat (first | apply Kd.R_alloc | apply Kd.R_drewN | apply Kd.R_drew)); exact Kd.R_mono HO_10.out (fun _ hk => ⟨trivial, hk⟩)) hg (.inl rfl)); have n2_ := Aside0.mk (blk_grown (g := gb129) (o := .cells #[.int .i64 a0_0, .int .i64 a0_1, .slice A0_2 l0_2.length c0_2, .int .i64 a0_3] 24 (0, 0)) (by (with_reducible repeat (first | refine blk_drewN ?_ _ | refine blk_drew ?_ | refine blk_alloc ?_ _)); exact BK129.out) hg (Kd.R_ne HO_9.out BK129.out (by decide))); have n3_ := Aside0.mk ((by rw [hw]; exact below_set (HB.out) GB29.out : Below w.heap.size w w32)); clear HO_9; clear HO_10; clear BK129; clear HB; have HO_9 := n0_; have HO_10 := n1_; have BK129 := n2_; have HB := n3_; clear n0_ n1_ n2_ n3_; clear hg hw hp_; have hcz33_0 : w32.cell? ⟨gb129, 0, none⟩ = some (.int .i64 a0_0) := (blk_cell BK129.out 0).trans rfl; have hcz33_1 : w32.cell? ⟨gb129, 1, none⟩ = some (.int .i64 a0_1) := (blk_cell BK129.out 1).trans rfl; have hcz33_2 : w32.cell? ⟨gb129, 2, none⟩ = some (.slice A0_2 l0_2.length c0_2) := (blk_cell BK129.out 2).trans rfl; have hcz33_3 : w32.cell? ⟨gb129, 3, none⟩ = some (.int .i64 a0_3) := (blk_cell BK129.out 3).trans rfl; have hfz33_0 := blk_frozen BK129.out 0; have hfz33_1 := blk_frozen BK129.out 1; have hfz33_2 := blk_frozen BK129.out 2; have hfz33_3 := blk_frozen BK129.out 3))
                              (try simp only [← hl9_2])
                              go_roundg k2
                              case measure => have := HK1.out; have := HK2.out; omega
                              case rel => exact ⟨(y140), (wrap64 (Int.tdiv x11_2 a0_0)), (wrap64 (x47_2 + 1)), (by first | rfl | (simp; done) | (simp [*]; done) | (simp [wrap64]; done)), (by first | rfl | (simp; done) | (simp [*]; done) | (simp [wrap64]; done)), H', ⟨by have := HK1.out; have := HK2.out; omega⟩, ⟨by (try simp only [hl9_2]); (with_reducible repeat (first | apply Kd.R_alloc | apply Kd.R_drewN | apply Kd.R_drew)); exact HO_9.out⟩, ⟨by (try simp only [hl9_2]); (with_reducible repeat (first | apply Kd.R_alloc | apply Kd.R_drewN | apply Kd.R_drew)); exact Kd.R_mono HO_10.out (fun _ hk => hk.2)⟩, ⟨by (try simp only [hl9_2]); (with_reducible repeat (first | refine blk_drewN ?_ _ | refine blk_drew ?_ | refine blk_alloc ?_ _)); exact BK129.out⟩, ⟨by repeat (first | (with_reducible first | exact HB.out | apply below_alloc | apply pw_below_drewN | apply below_drew1 | refine below_set ?_ GE129.out) | exact HB.out)⟩⟩
                            · rw [if_neg c28] at H
                              exact absurd H (by simp)
                          · rw [if_neg c27] at H
                            exact absurd H (by simp)
                      · rw [if_neg c25] at H
                        have c25b0 : decide (x47_2 < (x9_1.length : Int)) = false := decide_eq_false c25
                        clear c25
                        (try rw [hl9_2] at c25b0)
                        have H' := Aside0.mk H
                        clear H
                        go_wp2
                        go_loopg [65] k2 (fun kq v65 w' => ∃ (x10_3 : List Int) (x65_3 : Int), v65 = .int .i64 x65_3 ∧ Aside0 (tree_Keeps.l2 kq l1 x9_2 x10_3 t132 x42_1 l1 (l1.length : Int) x65_3 a0_0 a0_1 l0_2 a0_3 = some (r1, r2)) ∧ Aside0 (kq ≤ k2) ∧ Aside0 (Kd.R (Kd.int .u8) 5 w' w.heap.size (fun k_ => some k_ ≠ (v138 : Value).ownBlock) (.slice Ao24 x9_2.length co24) x9_2) ∧ Aside0 (Kd.R (Kd.int .u8) 5 w' w.heap.size (fun k_ => some k_ ≠ ((.slice Ao24 x9_2.length co24) : Value).ownBlock) v138 x10_3) ∧ Aside0 (w'.heap[gb129]? = some (.cells #[.int .i64 a0_0, .int .i64 a0_1, (.slice A0_2 l0_2.length c0_2), .int .i64 a0_3] 24 (0, 0))) ∧ Aside0 (Below w.heap.size w w'))
                        case atStart => exact ⟨(x10_1), (0), (by first | rfl | (simp; done) | (simp [*]; done) | (simp [wrap64]; done)), H', ⟨Nat.le_refl _⟩, ⟨by (try simp only [hl9_2]); (with_reducible repeat (first | apply Kd.R_alloc | apply Kd.R_drewN | apply Kd.R_drew)); exact HO_9.out⟩, ⟨by (try simp only [hl9_2]); (with_reducible repeat (first | apply Kd.R_alloc | apply Kd.R_drewN | apply Kd.R_drew)); exact HO_10.out⟩, ⟨by (try simp only [hl9_2]); (with_reducible repeat (first | refine blk_drewN ?_ _ | refine blk_drew ?_ | refine blk_alloc ?_ _)); exact BK129.out⟩, ⟨by repeat (first | (with_reducible first | exact HB.out | apply below_alloc | apply pw_below_drewN | apply below_drew1 | refine below_set ?_ GE129.out) | exact HB.out)⟩⟩
                        case round =>
                          clear H'
                          try clear c1
                          try clear c2
                          try clear p2
                          try clear q2
                          try clear hx2
                          try clear hf2
                          try clear c4
                          try clear c4b0
                          try clear c4b1
                          try clear c6
                          try clear p6
                          try clear c7
                          try clear c8
                          try clear c9
                          try clear c9b0
                          try clear c9b1
                          try clear c10
                          try clear c10b0
                          try clear c10b1
                          try clear c22
                          try clear c23
                          try clear c23b0
                          try clear c25
                          try clear c25b0
                          try clear c26
                          try clear c26b0
                          try clear c26b1
                          try clear c27
                          try clear c27b0
                          try clear c28
                          try clear c28b0
                          try clear p29
                          try clear q29
                          try clear hx29
                          try clear hf29
                          try clear hcz12_0
                          try clear hcz12_1
                          try clear hcz12_2
                          try clear hcz12_3
                          try clear hcz14_0
                          try clear hcz14_1
                          try clear hcz14_2
                          try clear hcz14_3
                          try clear hcz16_0
                          try clear hcz16_1
                          try clear hcz16_2
                          try clear hcz16_3
                          try clear hcz30_0
                          try clear hcz30_1
                          try clear hcz30_2
                          try clear hcz30_3
                          try clear hcz33_0
                          try clear hcz33_1
                          try clear hcz33_2
                          try clear hcz33_3
                          try clear hfz12_0
                          try clear hfz12_1
                          try clear hfz12_2
                          try clear hfz12_3
                          try clear hfz14_0
                          try clear hfz14_1
                          try clear hfz14_2
                          try clear hfz14_3
                          try clear hfz16_0
                          try clear hfz16_1
                          try clear hfz16_2
                          try clear hfz16_3
                          try clear hfz30_0
                          try clear hfz30_1
                          try clear hfz30_2
                          try clear hfz30_3
                          try clear hfz33_0
                          try clear hfz33_1
                          try clear hfz33_2
                          try clear hfz33_3
                          try clear hx29_0
                          try clear p2
                          try clear p29
                          try clear q29
                          obtain ⟨x10_3, x65_3, rfl, HA, HK3, HO_9, HO_10, BK129, HB⟩ := hrel
                          cases gk with
                          | zero => exact absurd HA.out (by simp [tree_Keeps.l2])
                          | succ k3 =>
                            have H := HA.out
                            clear HA
                            simp only [tree_Keeps.l2] at H
                            by_cases c34 : x65_3 < (l1.length : Int)
                            · rw [if_pos c34] at H
                              have c34b0 : decide (x65_3 < (l1.length : Int)) = true := decide_eq_true c34
                              clear c34
                              by_cases c35 : 0 ≤ x65_3
                              · rw [if_pos c35] at H
                                have c35b0 : decide (0 ≤ x65_3) = true := decide_eq_true c35
                                clear c35
                                by_cases c36 : x65_3 < (l1.length : Int)
                                · rw [if_pos c36] at H
                                  have c36b0 : decide (x65_3 < (l1.length : Int)) = true := decide_eq_true c36
                                  clear c36
                                  by_cases c37 : 0 ≤ (rd l1 x65_3)
                                  · rw [if_pos c37] at H
                                    have c37b0 : decide (0 ≤ (rd l1 x65_3)) = true := decide_eq_true c37
                                    clear c37
                                    by_cases c38 : (rd l1 x65_3) < (x9_2.length : Int)
                                    · rw [if_pos c38] at H
                                      have c38b0 : decide ((rd l1 x65_3) < (x9_2.length : Int)) = true := decide_eq_true c38
                                      clear c38
                                      by_cases c39 : x65_3 < (x10_3.length : Int)
                                      · rw [if_pos c39] at H
                                        have c39b0 : decide (x65_3 < (x10_3.length : Int)) = true := decide_eq_true c39
                                        clear c39
                                        obtain ⟨y143, hy143⟩ : ∃ y_ : List Int, y_ = (x10_3.set (x65_3 : Int).toNat (rd x9_2 (rd l1 x65_3))) := ⟨_, rfl⟩
                                        replace H : (tree_Keeps.l2 k3 l1 x9_2 y143 t132 x42_1 l1 (l1.length : Int) (wrap64 (x65_3 + 1)) a0_0 a0_1 l0_2 a0_3) = some (r1, r2) := by first | (rw [hy143]; with_reducible exact H) | (have H2_ := (Option.bind_some _ _).symm.trans H; rw [hy143]; with_reducible exact H2_) | (have H2_ := (Option.bind_some _ _).symm.trans H; with_reducible exact H2_) | with_reducible exact H | (rw [hy143]; exact H) | exact H
                                        have Ny143 := Aside0.mk hy143
                                        clear hy143
                                        have H' := Aside0.mk H
                                        clear H
                                        have p141 : 0 ≤ (x65_3 : Int) := of_decide_eq_true (by first | (with_reducible assumption) | assumption)
                                        have q141 : x65_3 < (l1.length : Int) := of_decide_eq_true (by first | (with_reducible assumption) | assumption)
                                        obtain ⟨ad141, e141, hx141_0⟩ := Kd.at_int HR1.out x65_3 p141 q141
                                        cases e141
                                        replace hx141_0 := (HB.out.cell (World.block_lt_of_cell? w _ hx141_0)).trans hx141_0
                                        replace p141 := eq_true p141
                                        replace q141 := eq_true q141
                                        have p142 : 0 ≤ ((rd l1 x65_3) : Int) := of_decide_eq_true (by first | (with_reducible assumption) | assumption)
                                        have q142 : (rd l1 x65_3) < (x9_2.length : Int) := of_decide_eq_true (by first | (with_reducible assumption) | assumption)
                                        obtain ⟨ad142, e142, hx142_0⟩ := Kd.at_int (Kd.R_reads' HO_9.out).2.2 (rd l1 x65_3) p142 q142
                                        cases e142
                                        replace p142 := eq_true p142
                                        replace q142 := eq_true q142
                                        have p40 : 0 ≤ (x65_3 : Int) := of_decide_eq_true (by first | (with_reducible assumption) | assumption)
                                        have q40 : (x65_3 : Int) < ((x10_3.length : Int) : Int) := of_decide_eq_true (by first | (with_reducible assumption) | assumption)
                                        obtain ⟨go40, co40, eo40, gb40, gl40, cl40, HG40⟩ := Kd.R_form HO_10.out (by omega)
                                        (first | cases eo40 | (injection eo40 with ea_ en_ ec_; (first | subst ea_ | (injection ea_ with ea_; subst ea_)); subst ec_; clear en_))
                                        have GB40 := Aside0.mk gb40
                                        have GG40 := Aside0.mk HG40
                                        clear gb40 gl40 HG40
                                        obtain ⟨hx40_0, hf40_0⟩ := Kd.R_celln 0 HO_10.out (x65_3 : Int) p40 q40
                                        replace p40 := eq_true p40
                                        replace q40 := eq_true q40
                                        have HP41 := Kd.R_putg HO_10.out (x65_3 : Int) (rd x9_2 (rd l1 x65_3))
                                        go_wp2_with (first | ((with_reducible refine gate_store (t := 5) (p := 76) rfl ?_); refine store_event (t := 5) (p := 76) (v := ?vo_w42) (w1 := (wr.setCell ⟨go40, (x65_3 : Int).toNat, none⟩ (.int .u8 (rd x9_2 (rd l1 x65_3))))) ?hg ?ho ?hn ?hr ?_; (case ho => rfl); (case hg => rfl); (case hn => rfl); (case hr => first | (go_simp; done) | (go_simp; rfl)); intro w42 hw; have hg : wr.grownBy w42 (some go40) := (by rw [hw]; exact HP41.2); have hp_ : Kd.R (Kd.int .u8) 5 w42 w.heap.size (fun k_ => some k_ ≠ (.slice (some ad142) x9_2.length co24 : Value).ownBlock) (.slice (some ⟨go40, 0, none⟩) x10_3.length co40) y143 := (by rw [hw, Ny143.out]; exact HP41.1); clear HP41; have n0_ := Aside0.mk (Kd.R_after (v := (.slice (some ⟨go40, 0, none⟩) x10_3.length co40)) (v1 := (.slice (some ⟨go40, 0, none⟩) x10_3.length co40)) (ok := (fun _ => True)) (by (with_reducible repeat (first | apply Kd.R_alloc | apply Kd.R_drewN | apply Kd.R_drew)); exact Kd.R_mono HO_9.out (fun _ hk => ⟨trivial, hk⟩)) hg (.inl rfl)); have n1_ := Aside0.mk (hp_); have n2_ := Aside0.mk (blk_grown (g := gb129) (o := .cells #[.int .i64 a0_0, .int .i64 a0_1, .slice A0_2 l0_2.length c0_2, .int .i64 a0_3] 24 (0, 0)) (by (with_reducible repeat (first | refine blk_drewN ?_ _ | refine blk_drew ?_ | refine blk_alloc ?_ _)); exact BK129.out) hg (Kd.R_ne HO_10.out BK129.out (by decide))); have n3_ := Aside0.mk ((by rw [hw]; exact below_set (HB.out) GB40.out : Below w.heap.size w w42)); clear HO_9; clear HO_10; clear BK129; clear HB; have HO_9 := n0_; have HO_10 := n1_; have BK129 := n2_; have HB := n3_; clear n0_ n1_ n2_ n3_; clear hg hw hp_))
                                        go_roundg k3
                                        case measure => have := HK1.out; have := HK2.out; have := HK3.out; omega
                                        case rel => exact ⟨(y143), (wrap64 (x65_3 + 1)), (by first | rfl | (simp; done) | (simp [*]; done) | (simp [wrap64]; done)), H', ⟨by have := HK1.out; have := HK2.out; have := HK3.out; omega⟩, ⟨by (try simp only [hl9_2]); (with_reducible repeat (first | apply Kd.R_alloc | apply Kd.R_drewN | apply Kd.R_drew)); exact Kd.R_mono HO_9.out (fun _ hk => hk.2)⟩, ⟨by (try simp only [hl9_2]); (with_reducible repeat (first | apply Kd.R_alloc | apply Kd.R_drewN | apply Kd.R_drew)); exact HO_10.out⟩, ⟨by (try simp only [hl9_2]); (with_reducible repeat (first | refine blk_drewN ?_ _ | refine blk_drew ?_ | refine blk_alloc ?_ _)); exact BK129.out⟩, ⟨by repeat (first | (with_reducible first | exact HB.out | apply below_alloc | apply pw_below_drewN | apply below_drew1 | refine below_set ?_ GE129.out) | exact HB.out)⟩⟩
                                      · rw [if_neg c39] at H
                                        exact absurd H (by simp)
                                    · rw [if_neg c38] at H
                                      exact absurd H (by simp)
                                  · rw [if_neg c37] at H
                                    exact absurd H (by simp)
                                · rw [if_neg c36] at H
                                  exact absurd H (by simp)
                              · rw [if_neg c35] at H
                                exact absurd H (by simp)
                            · rw [if_neg c34] at H
                              have c34b0 : decide (x65_3 < (l1.length : Int)) = false := decide_eq_false c34
                              clear c34
                              replace H := Option.bind_eq_some_iff.mp H
                              obtain ⟨t144, A430, H⟩ := H
                              replace H : ((tree_at.f k3 a0_0 a0_1 l0_2 a0_3 x10_3).bind fun t145 => (if t144 = t145 then (tree_Keeps.l0 k3 l1 x9_2 x10_3 t132 (wrap64 (x42_1 + 1)) a0_0 a0_1 l0_2 a0_3) else (some (false, 0)))) = some (r1, r2) := H
                              have A43 := Aside0.mk A430
                              clear A430
                              replace H := Option.bind_eq_some_iff.mp H
                              obtain ⟨t145, A440, H⟩ := H
                              replace H : (if t144 = t145 then (tree_Keeps.l0 k3 l1 x9_2 x10_3 t132 (wrap64 (x42_1 + 1)) a0_0 a0_1 l0_2 a0_3) else (some (false, 0))) = some (r1, r2) := H
                              have A44 := Aside0.mk A440
                              clear A440
                              by_cases c45 : t144 = t145
                              · rw [if_pos c45] at H
                                have c45b0 : (t144 == t145) = true := beq_iff_eq.mpr c45
                                have c45b1 : (t144 != t145) = false := bne_eq_false_iff_eq.mpr c45
                                clear c45
                                have H' := Aside0.mk H
                                clear H
                                try go_wp2
                                have n0_ := Aside0.mk (Kd.R_drew HO_9.out)
                                have n1_ := Aside0.mk (Kd.R_drew HO_10.out)
                                have n2_ := Aside0.mk (blk_drew BK129.out)
                                have n3_ := Aside0.mk (below_drew1 HB.out)
                                clear HO_9
                                clear HO_10
                                clear BK129
                                clear HB
                                have HO_9 := n0_
                                have HO_10 := n1_
                                have BK129 := n2_
                                have HB := n3_
                                clear n0_ n1_ n2_ n3_
                                refine start_ (n := 7) (S := fun w' => w'.cell? ⟨gb129, 0, none⟩ = some (.int .i64 a0_0) ∧ w'.cell? ⟨gb129, 1, none⟩ = some (.int .i64 a0_1) ∧ w'.cell? ⟨gb129, 2, none⟩ = some (.slice A0_2 l0_2.length c0_2) ∧ w'.cell? ⟨gb129, 3, none⟩ = some (.int .i64 a0_3)) (ds := []) #[false, false, false, false, false, false, false] (by kernel_rfl) rfl rfl ⟨(blk_cell BK129.out 0).trans rfl, (blk_cell BK129.out 1).trans rfl, (blk_cell BK129.out 2).trans rfl, (blk_cell BK129.out 3).trans rfl⟩ (fun hHeld => ?_)
                                generalize wr.drew = w46 at HO_9 HO_10 BK129 HB hHeld ⊢
                                refine pure_ (i := 1) (N := some 79) (v := ?_) (a' := ?_) #[false, true, false, false, false, false, false] rfl rfl (by kernel_rfl) (fun _ _ _ h => h) (Or.inl ⟨by rfl, ?_⟩) ?_ ?_
                                rotate_left
                                · intro w'
                                  go_simp
                                  with_reducible rfl
                                rotate_left
                                · simp only [Act.put, List.setIfInBounds_toArray, List.set_cons_zero, List.set_cons_succ, i64_w, i32_w]
                                  rfl
                                refine pure_ (i := 4) (N := some 82) (v := ?_) (a' := ?_) #[false, true, false, false, true, false, false] rfl rfl (by kernel_rfl) (fun _ _ _ h => h) (Or.inl ⟨by rfl, ?_⟩) ?_ ?_
                                rotate_left
                                · intro w'
                                  go_simp
                                  with_reducible rfl
                                rotate_left
                                · simp only [Act.put, List.setIfInBounds_toArray, List.set_cons_zero, List.set_cons_succ, i64_w, i32_w]
                                  rfl
                                refine take_ (i := 0) (N := some 78) (v := ?_) (a' := ?_) #[true, true, false, false, true, false, false] rfl rfl (by kernel_rfl) (fun _ _ _ h => h) (Or.inl ⟨by rfl, ?_⟩) hHeld ?_ ?_
                                rotate_left
                                · rintro w' ⟨s0, s1, s2, s3⟩
                                  go_simp
                                  with_reducible rfl
                                rotate_left
                                · simp only [Act.put, List.setIfInBounds_toArray, List.set_cons_zero, List.set_cons_succ, i64_w, i32_w]
                                  rfl
                                refine take_ (i := 3) (N := some 81) (v := ?_) (a' := ?_) #[true, true, false, true, true, false, false] rfl rfl (by kernel_rfl) (fun _ _ _ h => h) (Or.inl ⟨by rfl, ?_⟩) hHeld ?_ ?_
                                rotate_left
                                · rintro w' ⟨s0, s1, s2, s3⟩
                                  go_simp
                                  with_reducible rfl
                                rotate_left
                                · simp only [Act.put, List.setIfInBounds_toArray, List.set_cons_zero, List.set_cons_succ, i64_w, i32_w]
                                  rfl
                                refine one_ (i := 2) (N := some 80) #[true, true, true, true, true, false, false] rfl rfl (by kernel_rfl) (by decide) (fun K hK => ?_)
                                refine goes_ Tryd.func60 (by kernel_rfl) rfl #[.agg #[.int .i64 a0_0, .int .i64 a0_1, .slice A0_2 l0_2.length c0_2, .int .i64 a0_3], .slice Ao24 x9_2.length co24] (by rfl) rfl rfl (by (try simp only [List.map_toArray, List.map_cons, List.map_nil]); first | done | rfl | (simp only [List.length_drop, List.length_take]; rfl)) ?_
                                with_reducible refine (tree_at.calls k3 a0_0 a0_1 _ _ l0_2 a0_3 _ _ x9_2 t144 _ ?side1 ?side2 ?side3 ?side4 A43.out).mono ?_
                                (case side1 => repeat (first | exact (Kd.C_below HR0_2.out HB.out) | (with_reducible refine Kd.C_alloc ?_ _) | (with_reducible refine Kd.C_drewN ?_ _) | (with_reducible refine Kd.C_drew ?_)))
                                (case side2 => exact HC0_2.out)
                                (case side3 => repeat (first | exact (Kd.R_reads' HO_9.out).2.2 | (with_reducible refine Kd.C_alloc ?_ _) | (with_reducible refine Kd.C_drewN ?_ _) | (with_reducible refine Kd.C_drew ?_)))
                                (case side4 => exact (Kd.R_reads' HO_9.out).2.1)
                                rintro e w47 ⟨rfl, hb⟩
                                refine ⟨_, rfl, ?_⟩
                                have n0_ := Aside0.mk (Kd.R_below (by (with_reducible repeat (first | apply Kd.R_alloc | apply Kd.R_drewN | apply Kd.R_drew)); exact HO_9.out) hb)
                                have n1_ := Aside0.mk (Kd.R_below (by (with_reducible repeat (first | apply Kd.R_alloc | apply Kd.R_drewN | apply Kd.R_drew)); exact HO_10.out) hb)
                                have n2_ := Aside0.mk (blk_below (g := gb129) (o := .cells #[.int .i64 a0_0, .int .i64 a0_1, .slice A0_2 l0_2.length c0_2, .int .i64 a0_3] 24 (0, 0)) (by (with_reducible repeat (first | refine blk_drewN ?_ _ | refine blk_drew ?_ | refine blk_alloc ?_ _)); exact BK129.out) hb)
                                have n3_ := Aside0.mk (below_step (by repeat (first | (with_reducible first | exact HB.out | apply below_alloc | apply pw_below_drewN | apply below_drew1 | refine below_set ?_ GE129.out) | exact HB.out)) hb)
                                clear HO_9
                                clear HO_10
                                clear BK129
                                clear HB
                                have HO_9 := n0_
                                have HO_10 := n1_
                                have BK129 := n2_
                                have HB := n3_
                                clear n0_ n1_ n2_ n3_
                                (try clear hb)
                                (try clear hb2)
                                (try clear hk)
                                (try clear hi)
                                obtain ⟨Ao48, co48, eo48⟩ := Kd.R_slice HO_10.out
                                (first | subst eo48 | (injection eo48 with f1_ f2_ f3_; have f4_ := f1_.symm; have f5_ := f3_.symm; clear f1_ f2_ f3_; subst f4_; subst f5_))
                                refine hK.out _ _ ⟨(blk_cell BK129.out 0).trans rfl, (blk_cell BK129.out 1).trans rfl, (blk_cell BK129.out 2).trans rfl, (blk_cell BK129.out 3).trans rfl⟩ (fun hHeld => ?_)
                                clear hK K
                                refine norm_ (a' := ?_) ?_ ?_
                                rotate_left
                                · show Act.put _ (some 80) _ = _
                                  simp only [Act.put, List.setIfInBounds_toArray, List.set_cons_zero, List.set_cons_succ, i64_w, i32_w]
                                  rfl
                                refine one_ (i := 5) (N := some 83) #[true, true, true, true, true, true, false] rfl rfl (by kernel_rfl) (by decide) (fun K hK => ?_)
                                refine goes_ Tryd.func60 (by kernel_rfl) rfl #[.agg #[.int .i64 a0_0, .int .i64 a0_1, .slice A0_2 l0_2.length c0_2, .int .i64 a0_3], .slice Ao48 x10_3.length co48] (by rfl) rfl rfl (by (try simp only [List.map_toArray, List.map_cons, List.map_nil]); first | done | rfl | (simp only [List.length_drop, List.length_take]; rfl)) ?_
                                with_reducible refine (tree_at.calls k3 a0_0 a0_1 _ _ l0_2 a0_3 _ _ x10_3 t145 _ ?side1 ?side2 ?side3 ?side4 A44.out).mono ?_
                                (case side1 => repeat (first | exact (Kd.C_below HR0_2.out HB.out) | (with_reducible refine Kd.C_alloc ?_ _) | (with_reducible refine Kd.C_drewN ?_ _) | (with_reducible refine Kd.C_drew ?_)))
                                (case side2 => exact HC0_2.out)
                                (case side3 => repeat (first | exact (Kd.R_reads' HO_10.out).2.2 | (with_reducible refine Kd.C_alloc ?_ _) | (with_reducible refine Kd.C_drewN ?_ _) | (with_reducible refine Kd.C_drew ?_)))
                                (case side4 => exact (Kd.R_reads' HO_10.out).2.1)
                                rintro e w49 ⟨rfl, hb⟩
                                refine ⟨_, rfl, ?_⟩
                                have n0_ := Aside0.mk (Kd.R_below (by (with_reducible repeat (first | apply Kd.R_alloc | apply Kd.R_drewN | apply Kd.R_drew)); exact HO_9.out) hb)
                                have n1_ := Aside0.mk (Kd.R_below (by (with_reducible repeat (first | apply Kd.R_alloc | apply Kd.R_drewN | apply Kd.R_drew)); exact HO_10.out) hb)
                                have n2_ := Aside0.mk (blk_below (g := gb129) (o := .cells #[.int .i64 a0_0, .int .i64 a0_1, .slice A0_2 l0_2.length c0_2, .int .i64 a0_3] 24 (0, 0)) (by (with_reducible repeat (first | refine blk_drewN ?_ _ | refine blk_drew ?_ | refine blk_alloc ?_ _)); exact BK129.out) hb)
                                have n3_ := Aside0.mk (below_step (by repeat (first | (with_reducible first | exact HB.out | apply below_alloc | apply pw_below_drewN | apply below_drew1 | refine below_set ?_ GE129.out) | exact HB.out)) hb)
                                clear HO_9
                                clear HO_10
                                clear BK129
                                clear HB
                                have HO_9 := n0_
                                have HO_10 := n1_
                                have BK129 := n2_
                                have HB := n3_
                                clear n0_ n1_ n2_ n3_
                                (try clear hb)
                                (try clear hb2)
                                (try clear hk)
                                (try clear hi)
                                refine hK.out _ _ ⟨(blk_cell BK129.out 0).trans rfl, (blk_cell BK129.out 1).trans rfl, (blk_cell BK129.out 2).trans rfl, (blk_cell BK129.out 3).trans rfl⟩ (fun hHeld => ?_)
                                clear hK K
                                refine norm_ (a' := ?_) ?_ ?_
                                rotate_left
                                · show Act.put _ (some 83) _ = _
                                  simp only [Act.put, List.setIfInBounds_toArray, List.set_cons_zero, List.set_cons_succ, i64_w, i32_w]
                                  rfl
                                refine pure_ (i := 6) (N := some 84) (v := ?_) (a' := ?_) #[true, true, true, true, true, true, true] rfl rfl (by kernel_rfl) (fun _ _ _ h => h) (Or.inl ⟨by rfl, ?_⟩) ?_ ?_
                                rotate_left
                                · intro w'
                                  go_simp
                                  with_reducible rfl
                                rotate_left
                                · simp only [Act.put, List.setIfInBounds_toArray, List.set_cons_zero, List.set_cons_succ, i64_w, i32_w]
                                  rfl
                                refine done_ (by kernel_rfl) ?_
                                try go_wp2
                                (try simp only [← hl9_2])
                                go_roundg k3
                                case measure => have := HK1.out; have := HK2.out; have := HK3.out; omega
                                case rel => exact ⟨(x9_2), (x10_3), (wrap64 (x42_1 + 1)), (by first | rfl | (simp; done) | (simp [*]; done) | (simp [wrap64]; done)), H', ⟨by have := HK1.out; have := HK2.out; have := HK3.out; omega⟩, ⟨by (try simp only [hl9_2]); (with_reducible repeat (first | apply Kd.R_alloc | apply Kd.R_drewN | apply Kd.R_drew)); exact HO_9.out⟩, ⟨by (try simp only [hl9_2]); (with_reducible repeat (first | apply Kd.R_alloc | apply Kd.R_drewN | apply Kd.R_drew)); exact HO_10.out⟩, ⟨by (try simp only [hl9_2]); (with_reducible repeat (first | refine blk_drewN ?_ _ | refine blk_drew ?_ | refine blk_alloc ?_ _)); exact BK129.out⟩, ⟨by repeat (first | (with_reducible first | exact HB.out | apply below_alloc | apply pw_below_drewN | apply below_drew1 | refine below_set ?_ GE129.out) | exact HB.out)⟩⟩
                              · rw [if_neg c45] at H
                                have c45b0 : (t144 == t145) = false := beq_eq_false_iff_ne.mpr c45
                                have c45b1 : (t144 != t145) = true := bne_iff_ne.mpr c45
                                simp only [Option.some.injEq, Prod.mk.injEq] at H
                                obtain ⟨rfl, rfl⟩ := H
                                try go_wp2
                                have n0_ := Aside0.mk (Kd.R_drew HO_9.out)
                                have n1_ := Aside0.mk (Kd.R_drew HO_10.out)
                                have n2_ := Aside0.mk (blk_drew BK129.out)
                                have n3_ := Aside0.mk (below_drew1 HB.out)
                                clear HO_9
                                clear HO_10
                                clear BK129
                                clear HB
                                have HO_9 := n0_
                                have HO_10 := n1_
                                have BK129 := n2_
                                have HB := n3_
                                clear n0_ n1_ n2_ n3_
                                refine start_ (n := 7) (S := fun w' => w'.cell? ⟨gb129, 0, none⟩ = some (.int .i64 a0_0) ∧ w'.cell? ⟨gb129, 1, none⟩ = some (.int .i64 a0_1) ∧ w'.cell? ⟨gb129, 2, none⟩ = some (.slice A0_2 l0_2.length c0_2) ∧ w'.cell? ⟨gb129, 3, none⟩ = some (.int .i64 a0_3)) (ds := []) #[false, false, false, false, false, false, false] (by kernel_rfl) rfl rfl ⟨(blk_cell BK129.out 0).trans rfl, (blk_cell BK129.out 1).trans rfl, (blk_cell BK129.out 2).trans rfl, (blk_cell BK129.out 3).trans rfl⟩ (fun hHeld => ?_)
                                generalize wr.drew = w50 at HO_9 HO_10 BK129 HB hHeld ⊢
                                refine pure_ (i := 1) (N := some 79) (v := ?_) (a' := ?_) #[false, true, false, false, false, false, false] rfl rfl (by kernel_rfl) (fun _ _ _ h => h) (Or.inl ⟨by rfl, ?_⟩) ?_ ?_
                                rotate_left
                                · intro w'
                                  go_simp
                                  with_reducible rfl
                                rotate_left
                                · simp only [Act.put, List.setIfInBounds_toArray, List.set_cons_zero, List.set_cons_succ, i64_w, i32_w]
                                  rfl
                                refine pure_ (i := 4) (N := some 82) (v := ?_) (a' := ?_) #[false, true, false, false, true, false, false] rfl rfl (by kernel_rfl) (fun _ _ _ h => h) (Or.inl ⟨by rfl, ?_⟩) ?_ ?_
                                rotate_left
                                · intro w'
                                  go_simp
                                  with_reducible rfl
                                rotate_left
                                · simp only [Act.put, List.setIfInBounds_toArray, List.set_cons_zero, List.set_cons_succ, i64_w, i32_w]
                                  rfl
                                refine take_ (i := 0) (N := some 78) (v := ?_) (a' := ?_) #[true, true, false, false, true, false, false] rfl rfl (by kernel_rfl) (fun _ _ _ h => h) (Or.inl ⟨by rfl, ?_⟩) hHeld ?_ ?_
                                rotate_left
                                · rintro w' ⟨s0, s1, s2, s3⟩
                                  go_simp
                                  with_reducible rfl
                                rotate_left
                                · simp only [Act.put, List.setIfInBounds_toArray, List.set_cons_zero, List.set_cons_succ, i64_w, i32_w]
                                  rfl
                                refine take_ (i := 3) (N := some 81) (v := ?_) (a' := ?_) #[true, true, false, true, true, false, false] rfl rfl (by kernel_rfl) (fun _ _ _ h => h) (Or.inl ⟨by rfl, ?_⟩) hHeld ?_ ?_
                                rotate_left
                                · rintro w' ⟨s0, s1, s2, s3⟩
                                  go_simp
                                  with_reducible rfl
                                rotate_left
                                · simp only [Act.put, List.setIfInBounds_toArray, List.set_cons_zero, List.set_cons_succ, i64_w, i32_w]
                                  rfl
                                refine one_ (i := 2) (N := some 80) #[true, true, true, true, true, false, false] rfl rfl (by kernel_rfl) (by decide) (fun K hK => ?_)
                                refine goes_ Tryd.func60 (by kernel_rfl) rfl #[.agg #[.int .i64 a0_0, .int .i64 a0_1, .slice A0_2 l0_2.length c0_2, .int .i64 a0_3], .slice Ao24 x9_2.length co24] (by rfl) rfl rfl (by (try simp only [List.map_toArray, List.map_cons, List.map_nil]); first | done | rfl | (simp only [List.length_drop, List.length_take]; rfl)) ?_
                                with_reducible refine (tree_at.calls k3 a0_0 a0_1 _ _ l0_2 a0_3 _ _ x9_2 t144 _ ?side1 ?side2 ?side3 ?side4 A43.out).mono ?_
                                (case side1 => repeat (first | exact (Kd.C_below HR0_2.out HB.out) | (with_reducible refine Kd.C_alloc ?_ _) | (with_reducible refine Kd.C_drewN ?_ _) | (with_reducible refine Kd.C_drew ?_)))
                                (case side2 => exact HC0_2.out)
                                (case side3 => repeat (first | exact (Kd.R_reads' HO_9.out).2.2 | (with_reducible refine Kd.C_alloc ?_ _) | (with_reducible refine Kd.C_drewN ?_ _) | (with_reducible refine Kd.C_drew ?_)))
                                (case side4 => exact (Kd.R_reads' HO_9.out).2.1)
                                rintro e w51 ⟨rfl, hb⟩
                                refine ⟨_, rfl, ?_⟩
                                have n0_ := Aside0.mk (Kd.R_below (by (with_reducible repeat (first | apply Kd.R_alloc | apply Kd.R_drewN | apply Kd.R_drew)); exact HO_9.out) hb)
                                have n1_ := Aside0.mk (Kd.R_below (by (with_reducible repeat (first | apply Kd.R_alloc | apply Kd.R_drewN | apply Kd.R_drew)); exact HO_10.out) hb)
                                have n2_ := Aside0.mk (blk_below (g := gb129) (o := .cells #[.int .i64 a0_0, .int .i64 a0_1, .slice A0_2 l0_2.length c0_2, .int .i64 a0_3] 24 (0, 0)) (by (with_reducible repeat (first | refine blk_drewN ?_ _ | refine blk_drew ?_ | refine blk_alloc ?_ _)); exact BK129.out) hb)
                                have n3_ := Aside0.mk (below_step (by repeat (first | (with_reducible first | exact HB.out | apply below_alloc | apply pw_below_drewN | apply below_drew1 | refine below_set ?_ GE129.out) | exact HB.out)) hb)
                                clear HO_9
                                clear HO_10
                                clear BK129
                                clear HB
                                have HO_9 := n0_
                                have HO_10 := n1_
                                have BK129 := n2_
                                have HB := n3_
                                clear n0_ n1_ n2_ n3_
                                (try clear hb)
                                (try clear hb2)
                                (try clear hk)
                                (try clear hi)
                                obtain ⟨Ao52, co52, eo52⟩ := Kd.R_slice HO_10.out
                                (first | subst eo52 | (injection eo52 with f1_ f2_ f3_; have f4_ := f1_.symm; have f5_ := f3_.symm; clear f1_ f2_ f3_; subst f4_; subst f5_))
                                refine hK.out _ _ ⟨(blk_cell BK129.out 0).trans rfl, (blk_cell BK129.out 1).trans rfl, (blk_cell BK129.out 2).trans rfl, (blk_cell BK129.out 3).trans rfl⟩ (fun hHeld => ?_)
                                clear hK K
                                refine norm_ (a' := ?_) ?_ ?_
                                rotate_left
                                · show Act.put _ (some 80) _ = _
                                  simp only [Act.put, List.setIfInBounds_toArray, List.set_cons_zero, List.set_cons_succ, i64_w, i32_w]
                                  rfl
                                refine one_ (i := 5) (N := some 83) #[true, true, true, true, true, true, false] rfl rfl (by kernel_rfl) (by decide) (fun K hK => ?_)
                                refine goes_ Tryd.func60 (by kernel_rfl) rfl #[.agg #[.int .i64 a0_0, .int .i64 a0_1, .slice A0_2 l0_2.length c0_2, .int .i64 a0_3], .slice Ao52 x10_3.length co52] (by rfl) rfl rfl (by (try simp only [List.map_toArray, List.map_cons, List.map_nil]); first | done | rfl | (simp only [List.length_drop, List.length_take]; rfl)) ?_
                                with_reducible refine (tree_at.calls k3 a0_0 a0_1 _ _ l0_2 a0_3 _ _ x10_3 t145 _ ?side1 ?side2 ?side3 ?side4 A44.out).mono ?_
                                (case side1 => repeat (first | exact (Kd.C_below HR0_2.out HB.out) | (with_reducible refine Kd.C_alloc ?_ _) | (with_reducible refine Kd.C_drewN ?_ _) | (with_reducible refine Kd.C_drew ?_)))
                                (case side2 => exact HC0_2.out)
                                (case side3 => repeat (first | exact (Kd.R_reads' HO_10.out).2.2 | (with_reducible refine Kd.C_alloc ?_ _) | (with_reducible refine Kd.C_drewN ?_ _) | (with_reducible refine Kd.C_drew ?_)))
                                (case side4 => exact (Kd.R_reads' HO_10.out).2.1)
                                rintro e w53 ⟨rfl, hb⟩
                                refine ⟨_, rfl, ?_⟩
                                have n0_ := Aside0.mk (Kd.R_below (by (with_reducible repeat (first | apply Kd.R_alloc | apply Kd.R_drewN | apply Kd.R_drew)); exact HO_9.out) hb)
                                have n1_ := Aside0.mk (Kd.R_below (by (with_reducible repeat (first | apply Kd.R_alloc | apply Kd.R_drewN | apply Kd.R_drew)); exact HO_10.out) hb)
                                have n2_ := Aside0.mk (blk_below (g := gb129) (o := .cells #[.int .i64 a0_0, .int .i64 a0_1, .slice A0_2 l0_2.length c0_2, .int .i64 a0_3] 24 (0, 0)) (by (with_reducible repeat (first | refine blk_drewN ?_ _ | refine blk_drew ?_ | refine blk_alloc ?_ _)); exact BK129.out) hb)
                                have n3_ := Aside0.mk (below_step (by repeat (first | (with_reducible first | exact HB.out | apply below_alloc | apply pw_below_drewN | apply below_drew1 | refine below_set ?_ GE129.out) | exact HB.out)) hb)
                                clear HO_9
                                clear HO_10
                                clear BK129
                                clear HB
                                have HO_9 := n0_
                                have HO_10 := n1_
                                have BK129 := n2_
                                have HB := n3_
                                clear n0_ n1_ n2_ n3_
                                (try clear hb)
                                (try clear hb2)
                                (try clear hk)
                                (try clear hi)
                                refine hK.out _ _ ⟨(blk_cell BK129.out 0).trans rfl, (blk_cell BK129.out 1).trans rfl, (blk_cell BK129.out 2).trans rfl, (blk_cell BK129.out 3).trans rfl⟩ (fun hHeld => ?_)
                                clear hK K
                                refine norm_ (a' := ?_) ?_ ?_
                                rotate_left
                                · show Act.put _ (some 83) _ = _
                                  simp only [Act.put, List.setIfInBounds_toArray, List.set_cons_zero, List.set_cons_succ, i64_w, i32_w]
                                  rfl
                                refine pure_ (i := 6) (N := some 84) (v := ?_) (a' := ?_) #[true, true, true, true, true, true, true] rfl rfl (by kernel_rfl) (fun _ _ _ h => h) (Or.inl ⟨by rfl, ?_⟩) ?_ ?_
                                rotate_left
                                · intro w'
                                  go_simp
                                  with_reducible rfl
                                rotate_left
                                · simp only [Act.put, List.setIfInBounds_toArray, List.set_cons_zero, List.set_cons_succ, i64_w, i32_w]
                                  rfl
                                refine done_ (by kernel_rfl) ?_
                                try go_wp2
                                go_ret2
                                exact ⟨by first | rfl | (simp [errW_none, errW_some] <;> rfl) | (simp [*, errW_none, errW_some] <;> rfl), by repeat (first | (with_reducible first | exact HB.out | apply below_alloc | apply pw_below_drewN | apply below_drew1 | refine below_set ?_ GE129.out) | exact HB.out)⟩
                · rw [if_neg c23] at H
                  have c23b0 : decide (x42_1 < t132) = false := decide_eq_false c23
                  clear c23
                  simp only [Option.some.injEq, Prod.mk.injEq] at H
                  obtain ⟨rfl, rfl⟩ := H
                  go_wp2
                  go_ret2
                  exact ⟨by first | rfl | (simp [errW_none, errW_some] <;> rfl) | (simp [*, errW_none, errW_some] <;> rfl), by repeat (first | (with_reducible first | exact HB.out | apply below_alloc | apply pw_below_drewN | apply below_drew1 | refine below_set ?_ GE129.out) | exact HB.out)⟩
          · rw [if_neg c10] at H
            exact absurd H (by simp)
        · rw [if_neg c9] at H
          exact absurd H (by simp)
      · replace c8 := Bool.eq_false_iff.mpr c8
        subst c8
        have H1 : (some (false, 4)) = some (r1, r2) := by rw [if_neg (show ¬ (false = true) by decide)] at H; exact H
        clear H
        have H := H1
        clear H1
        simp only [Option.some.injEq, Prod.mk.injEq] at H
        obtain ⟨rfl, rfl⟩ := H
        go_enter Tryd.func40, Tryd.ntmps40
        go_wp2_with (first | ((with_reducible refine gate_dst (N := 2) rfl ?_); refine box_event ?hg (N := 2) ?hd (cs := #[.int .i64 a0_0, .int .i64 a0_1, .slice A0_2 l0_2.length c0_2, .int .i64 a0_3]) (t := 24) ?hr ?_; (case hd => rfl); (case hg => rfl); (case hr => first | (go_simp; done) | (go_simp; rfl)); intro gb129 hg w54 hbox hb; have n0_ := Aside0.mk (below_step (by repeat (first | (with_reducible first | exact HB.out | apply below_alloc | apply pw_below_drewN | apply below_drew1) | exact HB.out)) hb); have n1_ := Aside0.mk (hbox); have n2_ := Aside0.mk ((by rw [hg]; exact (below_size (by repeat (first | (with_reducible first | exact HB.out | apply below_alloc | apply pw_below_drewN | apply below_drew1) | exact HB.out))) : w.heap.size ≤ gb129)); have n3_ := Aside0.mk ((by rw [hg]; exact (below_size (by repeat (first | (with_reducible first | exact HB.out | apply below_alloc | apply pw_below_drewN | apply below_drew1) | exact HB.out))) : w.heap.size ≤ gb129)); clear HB; have HB := n0_; have BK129 := n1_; have GW129 := n2_; have GE129 := n3_; clear n0_ n1_ n2_ n3_; clear hb hbox hg; have hcz55_0 : w54.cell? ⟨gb129, 0, none⟩ = some (.int .i64 a0_0) := (blk_cell BK129.out 0).trans rfl; have hcz55_1 : w54.cell? ⟨gb129, 1, none⟩ = some (.int .i64 a0_1) := (blk_cell BK129.out 1).trans rfl; have hcz55_2 : w54.cell? ⟨gb129, 2, none⟩ = some (.slice A0_2 l0_2.length c0_2) := (blk_cell BK129.out 2).trans rfl; have hcz55_3 : w54.cell? ⟨gb129, 3, none⟩ = some (.int .i64 a0_3) := (blk_cell BK129.out 3).trans rfl; have hfz55_0 := blk_frozen BK129.out 0; have hfz55_1 := blk_frozen BK129.out 1; have hfz55_2 := blk_frozen BK129.out 2; have hfz55_3 := blk_frozen BK129.out 3) | ((with_reducible refine gate_callee (f := 22) rfl ?_); refine goesL_ (some 16) rfl rfl Tryd.func22 (by kernel_rfl) rfl #[.agg #[.int .i64 a0_0, .int .i64 a0_1, .slice A0_2 l0_2.length c0_2, .int .i64 a0_3]] rfl (by (try simp only [List.map_toArray, List.map_cons, List.map_nil]); first | done | rfl | (simp only [List.length_drop, List.length_take]; rfl)) ?_; (with_reducible refine (tree_Check.calls k a0_0 a0_1 _ _ l0_2 a0_3 t130 _ ?side1 ?side2 A3.out).mono ?_); (case side1 => repeat (first | exact (Kd.C_below HR0_2.out HB.out) | (with_reducible refine Kd.C_alloc ?_ _) | (with_reducible refine Kd.C_drewN ?_ _) | (with_reducible refine Kd.C_drew ?_))); (case side2 => exact HC0_2.out); rintro e w56 ⟨rfl, hb⟩; refine ⟨_, rfl, ?_⟩; have n0_ := Aside0.mk (blk_below (g := gb129) (o := .cells #[.int .i64 a0_0, .int .i64 a0_1, .slice A0_2 l0_2.length c0_2, .int .i64 a0_3] 24 (0, 0)) (by (with_reducible repeat (first | refine blk_drewN ?_ _ | refine blk_drew ?_ | refine blk_alloc ?_ _)); exact BK129.out) hb); have n1_ := Aside0.mk (below_step (by repeat (first | (with_reducible first | exact HB.out | apply below_alloc | apply pw_below_drewN | apply below_drew1 | refine below_set ?_ GE129.out) | exact HB.out)) hb); clear BK129; clear HB; have BK129 := n0_; have HB := n1_; clear n0_ n1_; (try clear hb); (try clear hb2); (try clear hk); (try clear hi); have hcz57_0 : w56.cell? ⟨gb129, 0, none⟩ = some (.int .i64 a0_0) := (blk_cell BK129.out 0).trans rfl; have hcz57_1 : w56.cell? ⟨gb129, 1, none⟩ = some (.int .i64 a0_1) := (blk_cell BK129.out 1).trans rfl; have hcz57_2 : w56.cell? ⟨gb129, 2, none⟩ = some (.slice A0_2 l0_2.length c0_2) := (blk_cell BK129.out 2).trans rfl; have hcz57_3 : w56.cell? ⟨gb129, 3, none⟩ = some (.int .i64 a0_3) := (blk_cell BK129.out 3).trans rfl; have hfz57_0 := blk_frozen BK129.out 0; have hfz57_1 := blk_frozen BK129.out 1; have hfz57_2 := blk_frozen BK129.out 2; have hfz57_3 := blk_frozen BK129.out 3) | ((with_reducible refine gate_callee (f := 74) rfl ?_); refine goesL_ (some 23) rfl rfl Tryd.func74 (by kernel_rfl) rfl #[.slice A1 l1.length c1, .int .i64 a0_1] rfl (by (try simp only [List.map_toArray, List.map_cons, List.map_nil]); first | done | rfl | (simp only [List.length_drop, List.length_take]; rfl)) ?_; (with_reducible refine (tree_order.calls k _ _ l1 a0_1 true _ ?side1 ?side2 A5.out).mono ?_); (case side1 => repeat (first | exact (Kd.C_below HR1.out HB.out) | (with_reducible refine Kd.C_alloc ?_ _) | (with_reducible refine Kd.C_drewN ?_ _) | (with_reducible refine Kd.C_drew ?_))); (case side2 => exact HC1.out); rintro e w58 ⟨rfl, hb⟩; refine ⟨_, rfl, ?_⟩; have n0_ := Aside0.mk (blk_below (g := gb129) (o := .cells #[.int .i64 a0_0, .int .i64 a0_1, .slice A0_2 l0_2.length c0_2, .int .i64 a0_3] 24 (0, 0)) (by (with_reducible repeat (first | refine blk_drewN ?_ _ | refine blk_drew ?_ | refine blk_alloc ?_ _)); exact BK129.out) hb); have n1_ := Aside0.mk (below_step (by repeat (first | (with_reducible first | exact HB.out | apply below_alloc | apply pw_below_drewN | apply below_drew1 | refine below_set ?_ GE129.out) | exact HB.out)) hb); clear BK129; clear HB; have BK129 := n0_; have HB := n1_; clear n0_ n1_; (try clear hb); (try clear hb2); (try clear hk); (try clear hi); have hcz59_0 : w58.cell? ⟨gb129, 0, none⟩ = some (.int .i64 a0_0) := (blk_cell BK129.out 0).trans rfl; have hcz59_1 : w58.cell? ⟨gb129, 1, none⟩ = some (.int .i64 a0_1) := (blk_cell BK129.out 1).trans rfl; have hcz59_2 : w58.cell? ⟨gb129, 2, none⟩ = some (.slice A0_2 l0_2.length c0_2) := (blk_cell BK129.out 2).trans rfl; have hcz59_3 : w58.cell? ⟨gb129, 3, none⟩ = some (.int .i64 a0_3) := (blk_cell BK129.out 3).trans rfl; have hfz59_0 := blk_frozen BK129.out 0; have hfz59_1 := blk_frozen BK129.out 1; have hfz59_2 := blk_frozen BK129.out 2; have hfz59_3 := blk_frozen BK129.out 3) | ((with_reducible refine gate_callee (f := 70) rfl ?_); refine goesL_ (some 30) rfl rfl Tryd.func70 (by kernel_rfl) rfl #[.int .i64 a0_0, .int .i64 a0_1] rfl (by (try simp only [List.map_toArray, List.map_cons, List.map_nil]); first | done | rfl | (simp only [List.length_drop, List.length_take]; rfl)) ?_; (with_reducible refine (tree_rowsOf.calls k a0_0 a0_1 t132 false _ A7.out).mono ?_); rintro e w' ⟨rfl, ⟨nd, rfl⟩⟩; refine ⟨_, rfl, ?_⟩))
        go_ret2
        exact ⟨by first | rfl | (simp [errW_none, errW_some] <;> rfl) | (simp [*, errW_none, errW_some] <;> rfl), by repeat (first | (with_reducible first | exact HB.out | apply below_alloc | apply pw_below_drewN | apply below_drew1 | refine below_set ?_ GE129.out) | exact HB.out)⟩
    · replace c6 := Bool.eq_false_iff.mpr c6
      subst c6
      have H1 : (some (false, 111)) = some (r1, r2) := by rw [if_neg (show ¬ (false = true) by decide)] at H; exact H
      clear H
      have H := H1
      clear H1
      simp only [Option.some.injEq, Prod.mk.injEq] at H
      obtain ⟨rfl, rfl⟩ := H
      go_enter Tryd.func40, Tryd.ntmps40
      go_wp2_with (first | ((with_reducible refine gate_dst (N := 2) rfl ?_); refine box_event ?hg (N := 2) ?hd (cs := #[.int .i64 a0_0, .int .i64 a0_1, .slice A0_2 l0_2.length c0_2, .int .i64 a0_3]) (t := 24) ?hr ?_; (case hd => rfl); (case hg => rfl); (case hr => first | (go_simp; done) | (go_simp; rfl)); intro gb129 hg w60 hbox hb; have n0_ := Aside0.mk (below_step (by repeat (first | (with_reducible first | exact HB.out | apply below_alloc | apply pw_below_drewN | apply below_drew1) | exact HB.out)) hb); have n1_ := Aside0.mk (hbox); have n2_ := Aside0.mk ((by rw [hg]; exact (below_size (by repeat (first | (with_reducible first | exact HB.out | apply below_alloc | apply pw_below_drewN | apply below_drew1) | exact HB.out))) : w.heap.size ≤ gb129)); have n3_ := Aside0.mk ((by rw [hg]; exact (below_size (by repeat (first | (with_reducible first | exact HB.out | apply below_alloc | apply pw_below_drewN | apply below_drew1) | exact HB.out))) : w.heap.size ≤ gb129)); clear HB; have HB := n0_; have BK129 := n1_; have GW129 := n2_; have GE129 := n3_; clear n0_ n1_ n2_ n3_; clear hb hbox hg; have hcz61_0 : w60.cell? ⟨gb129, 0, none⟩ = some (.int .i64 a0_0) := (blk_cell BK129.out 0).trans rfl; have hcz61_1 : w60.cell? ⟨gb129, 1, none⟩ = some (.int .i64 a0_1) := (blk_cell BK129.out 1).trans rfl; have hcz61_2 : w60.cell? ⟨gb129, 2, none⟩ = some (.slice A0_2 l0_2.length c0_2) := (blk_cell BK129.out 2).trans rfl; have hcz61_3 : w60.cell? ⟨gb129, 3, none⟩ = some (.int .i64 a0_3) := (blk_cell BK129.out 3).trans rfl; have hfz61_0 := blk_frozen BK129.out 0; have hfz61_1 := blk_frozen BK129.out 1; have hfz61_2 := blk_frozen BK129.out 2; have hfz61_3 := blk_frozen BK129.out 3) | ((with_reducible refine gate_callee (f := 22) rfl ?_); refine goesL_ (some 16) rfl rfl Tryd.func22 (by kernel_rfl) rfl #[.agg #[.int .i64 a0_0, .int .i64 a0_1, .slice A0_2 l0_2.length c0_2, .int .i64 a0_3]] rfl (by (try simp only [List.map_toArray, List.map_cons, List.map_nil]); first | done | rfl | (simp only [List.length_drop, List.length_take]; rfl)) ?_; (with_reducible refine (tree_Check.calls k a0_0 a0_1 _ _ l0_2 a0_3 t130 _ ?side1 ?side2 A3.out).mono ?_); (case side1 => repeat (first | exact (Kd.C_below HR0_2.out HB.out) | (with_reducible refine Kd.C_alloc ?_ _) | (with_reducible refine Kd.C_drewN ?_ _) | (with_reducible refine Kd.C_drew ?_))); (case side2 => exact HC0_2.out); rintro e w62 ⟨rfl, hb⟩; refine ⟨_, rfl, ?_⟩; have n0_ := Aside0.mk (blk_below (g := gb129) (o := .cells #[.int .i64 a0_0, .int .i64 a0_1, .slice A0_2 l0_2.length c0_2, .int .i64 a0_3] 24 (0, 0)) (by (with_reducible repeat (first | refine blk_drewN ?_ _ | refine blk_drew ?_ | refine blk_alloc ?_ _)); exact BK129.out) hb); have n1_ := Aside0.mk (below_step (by repeat (first | (with_reducible first | exact HB.out | apply below_alloc | apply pw_below_drewN | apply below_drew1 | refine below_set ?_ GE129.out) | exact HB.out)) hb); clear BK129; clear HB; have BK129 := n0_; have HB := n1_; clear n0_ n1_; (try clear hb); (try clear hb2); (try clear hk); (try clear hi); have hcz63_0 : w62.cell? ⟨gb129, 0, none⟩ = some (.int .i64 a0_0) := (blk_cell BK129.out 0).trans rfl; have hcz63_1 : w62.cell? ⟨gb129, 1, none⟩ = some (.int .i64 a0_1) := (blk_cell BK129.out 1).trans rfl; have hcz63_2 : w62.cell? ⟨gb129, 2, none⟩ = some (.slice A0_2 l0_2.length c0_2) := (blk_cell BK129.out 2).trans rfl; have hcz63_3 : w62.cell? ⟨gb129, 3, none⟩ = some (.int .i64 a0_3) := (blk_cell BK129.out 3).trans rfl; have hfz63_0 := blk_frozen BK129.out 0; have hfz63_1 := blk_frozen BK129.out 1; have hfz63_2 := blk_frozen BK129.out 2; have hfz63_3 := blk_frozen BK129.out 3) | ((with_reducible refine gate_callee (f := 74) rfl ?_); refine goesL_ (some 23) rfl rfl Tryd.func74 (by kernel_rfl) rfl #[.slice A1 l1.length c1, .int .i64 a0_1] rfl (by (try simp only [List.map_toArray, List.map_cons, List.map_nil]); first | done | rfl | (simp only [List.length_drop, List.length_take]; rfl)) ?_; (with_reducible refine (tree_order.calls k _ _ l1 a0_1 false _ ?side1 ?side2 A5.out).mono ?_); (case side1 => repeat (first | exact (Kd.C_below HR1.out HB.out) | (with_reducible refine Kd.C_alloc ?_ _) | (with_reducible refine Kd.C_drewN ?_ _) | (with_reducible refine Kd.C_drew ?_))); (case side2 => exact HC1.out); rintro e w64 ⟨rfl, hb⟩; refine ⟨_, rfl, ?_⟩; have n0_ := Aside0.mk (blk_below (g := gb129) (o := .cells #[.int .i64 a0_0, .int .i64 a0_1, .slice A0_2 l0_2.length c0_2, .int .i64 a0_3] 24 (0, 0)) (by (with_reducible repeat (first | refine blk_drewN ?_ _ | refine blk_drew ?_ | refine blk_alloc ?_ _)); exact BK129.out) hb); have n1_ := Aside0.mk (below_step (by repeat (first | (with_reducible first | exact HB.out | apply below_alloc | apply pw_below_drewN | apply below_drew1 | refine below_set ?_ GE129.out) | exact HB.out)) hb); clear BK129; clear HB; have BK129 := n0_; have HB := n1_; clear n0_ n1_; (try clear hb); (try clear hb2); (try clear hk); (try clear hi)))
      go_ret2
      exact ⟨by first | rfl | (simp [errW_none, errW_some] <;> rfl) | (simp [*, errW_none, errW_some] <;> rfl), by repeat (first | (with_reducible first | exact HB.out | apply below_alloc | apply pw_below_drewN | apply below_drew1 | refine below_set ?_ GE129.out) | exact HB.out)⟩
  · rw [if_neg c4] at H
    have c4b0 : (t130 == 0) = false := beq_eq_false_iff_ne.mpr c4
    have c4b1 : (t130 != 0) = true := bne_iff_ne.mpr c4
    simp only [Option.some.injEq, Prod.mk.injEq] at H
    obtain ⟨rfl, rfl⟩ := H
    go_enter Tryd.func40, Tryd.ntmps40
    go_wp2_with (first | ((with_reducible refine gate_dst (N := 2) rfl ?_); refine box_event ?hg (N := 2) ?hd (cs := #[.int .i64 a0_0, .int .i64 a0_1, .slice A0_2 l0_2.length c0_2, .int .i64 a0_3]) (t := 24) ?hr ?_; (case hd => rfl); (case hg => rfl); (case hr => first | (go_simp; done) | (go_simp; rfl)); intro gb129 hg w65 hbox hb; have n0_ := Aside0.mk (below_step (by repeat (first | (with_reducible first | exact HB.out | apply below_alloc | apply pw_below_drewN | apply below_drew1) | exact HB.out)) hb); have n1_ := Aside0.mk (hbox); have n2_ := Aside0.mk ((by rw [hg]; exact (below_size (by repeat (first | (with_reducible first | exact HB.out | apply below_alloc | apply pw_below_drewN | apply below_drew1) | exact HB.out))) : w.heap.size ≤ gb129)); have n3_ := Aside0.mk ((by rw [hg]; exact (below_size (by repeat (first | (with_reducible first | exact HB.out | apply below_alloc | apply pw_below_drewN | apply below_drew1) | exact HB.out))) : w.heap.size ≤ gb129)); clear HB; have HB := n0_; have BK129 := n1_; have GW129 := n2_; have GE129 := n3_; clear n0_ n1_ n2_ n3_; clear hb hbox hg; have hcz66_0 : w65.cell? ⟨gb129, 0, none⟩ = some (.int .i64 a0_0) := (blk_cell BK129.out 0).trans rfl; have hcz66_1 : w65.cell? ⟨gb129, 1, none⟩ = some (.int .i64 a0_1) := (blk_cell BK129.out 1).trans rfl; have hcz66_2 : w65.cell? ⟨gb129, 2, none⟩ = some (.slice A0_2 l0_2.length c0_2) := (blk_cell BK129.out 2).trans rfl; have hcz66_3 : w65.cell? ⟨gb129, 3, none⟩ = some (.int .i64 a0_3) := (blk_cell BK129.out 3).trans rfl; have hfz66_0 := blk_frozen BK129.out 0; have hfz66_1 := blk_frozen BK129.out 1; have hfz66_2 := blk_frozen BK129.out 2; have hfz66_3 := blk_frozen BK129.out 3) | ((with_reducible refine gate_callee (f := 22) rfl ?_); refine goesL_ (some 16) rfl rfl Tryd.func22 (by kernel_rfl) rfl #[.agg #[.int .i64 a0_0, .int .i64 a0_1, .slice A0_2 l0_2.length c0_2, .int .i64 a0_3]] rfl (by (try simp only [List.map_toArray, List.map_cons, List.map_nil]); first | done | rfl | (simp only [List.length_drop, List.length_take]; rfl)) ?_; (with_reducible refine (tree_Check.calls k a0_0 a0_1 _ _ l0_2 a0_3 t130 _ ?side1 ?side2 A3.out).mono ?_); (case side1 => repeat (first | exact (Kd.C_below HR0_2.out HB.out) | (with_reducible refine Kd.C_alloc ?_ _) | (with_reducible refine Kd.C_drewN ?_ _) | (with_reducible refine Kd.C_drew ?_))); (case side2 => exact HC0_2.out); rintro e w67 ⟨rfl, hb⟩; refine ⟨_, rfl, ?_⟩; have n0_ := Aside0.mk (blk_below (g := gb129) (o := .cells #[.int .i64 a0_0, .int .i64 a0_1, .slice A0_2 l0_2.length c0_2, .int .i64 a0_3] 24 (0, 0)) (by (with_reducible repeat (first | refine blk_drewN ?_ _ | refine blk_drew ?_ | refine blk_alloc ?_ _)); exact BK129.out) hb); have n1_ := Aside0.mk (below_step (by repeat (first | (with_reducible first | exact HB.out | apply below_alloc | apply pw_below_drewN | apply below_drew1 | refine below_set ?_ GE129.out) | exact HB.out)) hb); clear BK129; clear HB; have BK129 := n0_; have HB := n1_; clear n0_ n1_; (try clear hb); (try clear hb2); (try clear hk); (try clear hi)))
    go_ret2
    exact ⟨by first | rfl | (simp [errW_none, errW_some] <;> rfl) | (simp [*, errW_none, errW_some] <;> rfl), by repeat (first | (with_reducible first | exact HB.out | apply below_alloc | apply pw_below_drewN | apply below_drew1 | refine below_set ?_ GE129.out) | exact HB.out)⟩
end Go.Proofs.YtbnonnogkgbpiaaDoor.PT
end
section
namespace Go.Proofs.YtbnonnogkgbpiaaDoor.TreeText
open Go Go.RowKit Go.Proofs.YtbnonnogkgbpiaaDoorW.PrintWords Go.Proofs.YtbnonnogkgbpiaaDoorW.PrintLast Go.Proofs.YtbnonnogkgbpiaaDoorW.PrintMore Go.Proofs.YtbnonnogkgbpiaaDoor.PT Go.Proofs.YtbnonnogkgbpiaaDoor.TreePlain
set_option linter.unusedVariables false
set_option linter.unusedSimpArgs false
theorem four {W : World} {t ty : Nat} {v0 v1 v2 v3 : Value} (h : W.heap[t]? = some (.cells #[v0, v1, v2, v3] ty (0, 0))) : W.cell? ⟨t, 0, none⟩ = some v0 ∧ W.cell? ⟨t, 1, none⟩ = some v1 ∧ W.cell? ⟨t, 2, none⟩ = some v2 ∧ W.cell? ⟨t, 3, none⟩ = some v3 :=
  ⟨(blk_cell h 0).trans rfl, (blk_cell h 1).trans rfl, (blk_cell h 2).trans rfl, (blk_cell h 3).trans rfl⟩
set_option maxHeartbeats 8000000 in
set_option maxRecDepth 100000 in
theorem print_bad (k : Nat) (st n : Int) (A : Option Addr) (c : Nat) (l : List S49) (rt code : Int) (w : World) (hr : Kd.C k49 w A l.length l) (hc : l.length ≤ c) (h : tree_Check.f k st n l rt = some code) (hcode : (code != 0) = true) :
    Calls Tryd.prog 17 #[.agg #[.int .i64 st, .int .i64 n, .slice A l.length c, .int .i64 rt]] w fun e w' => e = .returned (.tuple #[.string ⟨#[]⟩, .int .i64 code]) ∧ Below w.heap.size w w' := by
  have hu := Tryd.underlying24
  have CK := Aside0.mk (fun (W : World) (hW : Below w.heap.size w W) => tree_Check.calls k st n A c l rt code W (Kd.C_below hr hW) hc h)
  have HB := Aside0.mk (Below.refl w.heap.size w)
  clear hr hc h
  go_enter Tryd.func17, Tryd.ntmps17
  go_wp2_with (first
    | ((with_reducible refine gate_dst (N := 1) rfl ?_); refine box_event ?hg (N := 1) ?hd (cs := #[.int .i64 st, .int .i64 n, .slice A l.length c, .int .i64 rt]) (t := 24) ?hr ?_; (case hd => rfl); (case hg => rfl); (case hr => first | (go_simp; done) | (go_simp; rfl)); intro t hg W9 hbox hb; have n_ := below_step HB.out hb; clear HB; have HB := Aside0.mk n_; obtain ⟨gc0, gc1, gc2, gc3⟩ := four hbox; clear n_ hg hbox hb)
    | (go_at_call 22; (with_reducible refine (CK.out _ HB.out).mono ?_); rintro e_ W9 ⟨rfl, hb⟩; have n_ := below_step HB.out hb; clear HB gc0 gc1 gc2 gc3; have HB := Aside0.mk n_; clear n_ hb))
  go_ret2
  exact ⟨rfl, HB.out⟩
theorem Kp.box {W W' : World} (h : Kp W W') {k : Nat} {cs : Array Value} {ty : TypeId} {fz : Nat × Nat} (hx : W.heap[k]? = some (.cells cs ty fz)) (h1 : ty ≠ 5) (h2 : ty ≠ 89) : W'.heap[k]? = some (.cells cs ty fz) := h k cs ty fz hx h1 h2
theorem lit4 {W : World} {g : Nat} {a b c d : Int} (h : W.heap[g]? = some (.cells #[.int .i64 a, .int .i64 b, .int .i64 c, .int .i64 d] 3 (0, 0))) (x : Int) (h0 : 0 ≤ x) (h1 : x < 4) : W.cell? ⟨g, x.toNat, none⟩ = some (.int .i64 (rd [a, b, c, d] x)) := by
  obtain ⟨c0, c1, c2, c3⟩ := four h
  rcases (show x = 0 ∨ x = 1 ∨ x = 2 ∨ x = 3 by omega) with rfl | rfl | rfl | rfl
  · exact c0
  · exact c1
  · exact c2
  · exact c3
theorem spaced_len (ks : List Int) (h : ∀ x ∈ ks, -9223372036854775808 ≤ x ∧ x ≤ 9223372036854775807) : ∀ j, j ≤ ks.length → (spacedT ks j).length ≤ 21 * j
  | 0, _ => Nat.le_refl _
  | j + 1, hj => by
    have ih := spaced_len ks h j (by omega)
    have hm : rd ks j ∈ ks := by
      unfold rd
      rw [Int.toNat_natCast, List.getD_eq_getElem?_getD, List.getElem?_eq_getElem (show j < ks.length by omega)]
      exact List.getElem_mem _
    have := itoa_len _ (h _ hm).1 (h _ hm).2
    simp only [spacedT, List.length_append, List.length_cons]
    omega
set_option maxHeartbeats 16000000 in
set_option maxRecDepth 100000 in
theorem print_ok (k : Nat) (st n : Int) (A : Option Addr) (c : Nat) (l : List S49) (rt : Int) (w : World) (hp : Pow w) (hr : Kd.C k49 w A l.length l) (hc : l.length ≤ c) (h : tree_Check.f k st n l rt = some 0) (hF : Fine st n l rt) (hB0 : Bytes l) :
    Calls Tryd.prog 17 #[.agg #[.int .i64 st, .int .i64 n, .slice A l.length c, .int .i64 rt]] w fun e w' => e = .returned (.tuple #[.string ⟨(printP st n l rt).1.toArray⟩, .int .i64 (printP st n l rt).2]) ∧ Below w.heap.size w w' := by
  have hu := Tryd.underlying24
  have hu2 := Tryd.underlying49
  have CK := Aside0.mk (fun (W : World) (hW : Below w.heap.size w W) => tree_Check.calls k st n A c l rt 0 W (Kd.C_below hr hW) hc h)
  have HB := Aside0.mk (Below.refl w.heap.size w)
  have HP := Aside0.mk hp
  have HR := Aside0.mk hr
  have HC := Aside0.mk hc
  have HF := Aside0.mk hF
  have HY := Aside0.mk hB0
  clear hr hc h hF hp hB0
  go_enter Tryd.func17, Tryd.ntmps17
  go_wp2_with (first
    | ((with_reducible refine gate_dst (N := 1) rfl ?_); refine box_event ?hg (N := 1) ?hd (cs := #[.int .i64 st, .int .i64 n, .slice A l.length c, .int .i64 rt]) (t := 24) ?hr ?_; (case hd => rfl); (case hg => rfl); (case hr => first | (go_simp; done) | (go_simp; rfl)); intro t hg W9 hbox hb; have n_ := below_step HB.out hb; clear HB; have HB := Aside0.mk n_; have BX := Aside0.mk hbox; obtain ⟨gc0, gc1, gc2, gc3⟩ := four hbox; clear n_ hg hbox hb)
    | (go_at_call 22; (with_reducible refine (CK.out _ HB.out).mono ?_); rintro e_ W9 ⟨rfl, hb⟩; have n_ := below_step HB.out hb; have m_ := blk_below BX.out hb; clear CK HB BX gc0 gc1 gc2 gc3; have HB := Aside0.mk n_; have BX := Aside0.mk m_; obtain ⟨gc0, gc1, gc2, gc3⟩ := four m_; clear n_ m_ hb)
    | ((with_reducible refine gate_dst (N := 5) rfl ?_); refine box_event ?hg5 (N := 5) ?hd5 (cs := #[.pointer none, .slice none 0 0]) (t := 89) ?hr5 ?_; (case hd5 => rfl); (case hg5 => rfl); (case hr5 => first | (go_simp; done) | (go_simp; rfl)); intro b hg W9 hbox hb; have F := Aside0.mk (TP.start HB.out hg hbox hb); have m_ := blk_below BX.out hb; clear HB BX gc0 gc1 gc2 gc3 hg hbox hb; have BX := Aside0.mk m_; obtain ⟨gc0, gc1, gc2, gc3⟩ := four m_; clear m_)
    | (go_at_call 51; have h_ := TP.text F.out [116, 114, 101, 101] (by simp); with_reducible refine h_.mono ?_; clear h_; rintro e_ W9 ⟨⟨v_, rfl⟩, hF_, hk_⟩; have m_ := Kp.box hk_ BX.out (by decide) (by decide); clear F BX gc0 gc1 gc2 gc3 hk_; have F := Aside0.mk hF_; have BX := Aside0.mk m_; obtain ⟨gc0, gc1, gc2, gc3⟩ := four m_; clear hF_ m_))
  have G0 := Aside0.mk (heap_alloc_new W9 (.cells #[.int .i64 st, .int .i64 n, .int .i64 (l.length : Int), .int .i64 rt] 3))
  have F0 := Aside0.mk (F.out.on (below_alloc (Below.refl _ W9) (.cells #[.int .i64 st, .int .i64 n, .int .i64 (l.length : Int), .int .i64 rt] 3)))
  have B0 := Aside0.mk (blk_below BX.out (below_alloc (Below.refl _ W9) (.cells #[.int .i64 st, .int .i64 n, .int .i64 (l.length : Int), .int .i64 rt] 3)))
  clear F BX gc0 gc1 gc2 gc3
  generalize hg0 : W9.heap.size = g at *
  go_loopg [7, 29] 4 (fun g_ s7 s29 wr => ∃ (x : Int), s29 = .int .i64 x ∧ Aside0 (0 ≤ x ∧ (g_ : Int) = 4 - x) ∧ Aside0 (TP w b ([116, 114, 101, 101] ++ spacedT [st, n, (l.length : Int), rt] x.toNat) wr) ∧ Aside0 (wr.heap[t]? = some (.cells #[.int .i64 st, .int .i64 n, .slice A l.length c, .int .i64 rt] 24 (0, 0))) ∧ Aside0 (wr.heap[g]? = some (.cells #[.int .i64 st, .int .i64 n, .int .i64 (l.length : Int), .int .i64 rt] 3 (0, 0))))
  case atStart => exact ⟨0, rfl, ⟨by omega, by omega⟩, F0, B0, G0⟩
  case round =>
    obtain ⟨x, rfl, HX, F, BX, G⟩ := hrel
    clear F0 B0 G0
    have hall : ∀ v ∈ [st, n, (l.length : Int), rt], -9223372036854775808 ≤ v ∧ v ≤ 9223372036854775807 := by
      have hf := HF.out
      have f1 := hf.hst
      have f2 := hf.hn
      have f3 := hf.hl
      have f4 := hf.hrt
      intro v hv
      simp only [List.mem_cons, List.not_mem_nil, or_false] at hv
      rcases hv with rfl | rfl | rfl | rfl <;> omega
    have HV := Aside0.mk hall
    clear hall
    by_cases q : x < 4
    · have p0 : 0 ≤ x := HX.out.1
      have k0_ := lit4 G.out x p0 q
      have w1_ : wrap64 (x + 1) = x + 1 := by unfold wrap64; omega
      have hm : rd [st, n, (l.length : Int), rt] x ∈ [st, n, (l.length : Int), rt] := by
        unfold rd
        rw [List.getD_eq_getElem?_getD, List.getElem?_eq_getElem (show x.toNat < 4 by omega)]
        exact List.getElem_mem _
      have hv := HV.out _ hm
      have hsp : spacedT [st, n, (l.length : Int), rt] (x + 1).toNat = spacedT [st, n, (l.length : Int), rt] x.toNat ++ (32 :: Lib.itoa (rd [st, n, (l.length : Int), rt] x)) := by
        rw [show (x + 1).toNat = x.toNat + 1 by omega]
        show _ ++ (32 :: Lib.itoa (rd _ (x.toNat : Int))) = _
        rw [show ((x.toNat : Nat) : Int) = x by omega]
      have hlen := spaced_len [st, n, (l.length : Int), rt] HV.out x.toNat (show x.toNat ≤ 4 by omega)
      have HSP := Aside0.mk hsp
      have HLEN := Aside0.mk hlen
      have HVV := Aside0.mk hv
      clear hm hv hsp hlen
      generalize spacedT [st, n, (l.length : Int), rt] x.toNat = sp at *
      generalize rd [st, n, (l.length : Int), rt] x = v at *
      have hno := eq_false (show ¬ (9223372036854775807 < 1 + (Lib.itoa v).length) by have := itoa_len v HVV.out.1 HVV.out.2; omega)
      go_wp2_with (first
        | (go_at_call 52; (with_reducible refine (TP.num F.out v HVV.out.1 HVV.out.2 HP.out).mono ?_); rintro e_ W9 ⟨rfl, hF_, hk_⟩; have m_ := Kp.box hk_ BX.out (by decide) (by decide); have G_ := Kp.box hk_ G.out (by decide) (by decide); clear F BX G hk_ k0_; have F := Aside0.mk hF_; have BX := Aside0.mk m_; have G := Aside0.mk G_; clear hF_ m_ G_)
        | (go_at_call 51; have h_ := TP.text2 F.out _ ([32] ++ Lib.itoa v) (cat_eq [32] _) (by have := itoa_len v HVV.out.1 HVV.out.2; have := HLEN.out; have := HX.out; simp; omega); with_reducible refine h_.mono ?_; clear h_; rintro e_ W9 ⟨⟨v_, rfl⟩, hF_, hk_⟩; have m_ := Kp.box hk_ BX.out (by decide) (by decide); have G_ := Kp.box hk_ G.out (by decide) (by decide); clear F BX G hk_; have F := Aside0.mk hF_; have BX := Aside0.mk m_; have G := Aside0.mk G_; clear hF_ m_ G_))
      go_roundg (4 - (x + 1).toNat)
      case measure => go_light; have := HX.out; omega
      case rel =>
        go_light
        exact ⟨x + 1, by simp [w1_], ⟨by omega, by have := HX.out; omega⟩, ⟨by rw [HSP.out]; simpa using F.out⟩, BX, G⟩
    · have hx4 : x = 4 := by have := HX.out; omega
      subst hx4
      --MAIN
      have hsp := spaced_len [st, n, (l.length : Int), rt] HV.out 4 (Nat.le_refl _)
      have HSP := Aside0.mk hsp
      clear hsp HV G
      have F1 := Aside0.mk (show TP w b ([116, 114, 101, 101] ++ spacedT [st, n, (l.length : Int), rt] 4) wr from F.out)
      clear F
      have F := F1
      clear F1
      obtain ⟨gc0, gc1, gc2, gc3⟩ := four BX.out
      go_wp2_with (first
        | (go_at_call 51; have h_ := TP.text2 F.out _ ([10]) (rfl) (by have := HSP.out; simp; omega); with_reducible refine h_.mono ?_; clear h_; rintro e_ W9 ⟨⟨v_, rfl⟩, hF_, hk_⟩; have m_ := Kp.box hk_ BX.out (by decide) (by decide); clear F BX hk_ gc0 gc1 gc2 gc3; have F := Aside0.mk hF_; have BX := Aside0.mk m_; obtain ⟨gc0, gc1, gc2, gc3⟩ := four m_; clear hF_ m_))
      have hhead : headT st n (l.length : Int) rt = [116, 114, 101, 101] ++ spacedT [st, n, (l.length : Int), rt] 4 ++ [10] := by
        unfold headT
        simp only [List.append_assoc]
      have F1 := Aside0.mk (show TP w b (headT st n (l.length : Int) rt) W9 from hhead ▸ F.out)
      have HH := Aside0.mk (show (headT st n (l.length : Int) rt).length ≤ 1048576 by rw [hhead]; have := HSP.out; simp only [List.length_append, List.length_cons, List.length_nil]; omega)
      clear F hhead HSP gc0 gc1 gc2 gc3
      generalize hRR : restT l l.length 0 (headT st n (l.length : Int) rt) = RR
      have hres : printP st n l rt = outT RR := by
        unfold printP
        rw [hRR]
      have HRES := Aside0.mk hres
      have HRR := Aside0.mk hRR
      clear hres hRR
      generalize headT st n (l.length : Int) rt = H0 at *
      go_loopg [42] l.length (fun g_ s42 wq => ∃ (x : Int) (T : List UInt8), s42 = .int .i64 x ∧ Aside0 (0 ≤ x ∧ (g_ : Int) = l.length - x) ∧ Aside0 (restT l g_ x.toNat T = RR) ∧ Aside0 (T.length ≤ 1048576) ∧ Aside0 (TP w b T wq) ∧ Aside0 (wq.heap[t]? = some (.cells #[.int .i64 st, .int .i64 n, .slice A l.length c, .int .i64 rt] 24 (0, 0))))
      case atStart => exact ⟨0, _, rfl, ⟨by omega, by omega⟩, HRR, HH, F1, BX⟩
      case round =>
        obtain ⟨x, T, rfl, HX, HRR, HT, F, BX⟩ := hrel
        clear F1 HH
        by_cases q : x < (l.length : Int)
        case neg =>
          have hg0 : gk = 0 := by have := HX.out; omega
          subst hg0
          have hTR : some T = RR := HRR.out
          go_wp2_with (first
            | (go_at_call 55; (with_reducible refine (TP.string F.out).mono ?_); rintro e_ W9 ⟨rfl, hb_⟩; have HE := Aside0.mk hb_; clear hb_ F BX))
          go_ret2
          exact ⟨by rw [HRES.out, ← hTR]; rfl, HE.out⟩
        case pos =>
          have p0 : 0 ≤ x := HX.out.1
          have w1_ : wrap64 (x + 1) = x + 1 := by have := HF.out.hl; unfold wrap64; omega
          obtain ⟨d, rfl⟩ : ∃ d, gk = d + 1 := ⟨gk - 1, by have := HX.out; omega⟩
          obtain ⟨ad, A1, c1, rfl, k0w, k1w, hc1, hK1⟩ := at_T49 HR.out x p0 q
          have k0_ := pw_cell_below F.out.be k0w
          have k1_ := pw_cell_below F.out.be k1w
          have hK0 : Kd.C (Kd.int .i64) w A1 (rd_T49 l x).f1.length (rd_T49 l x).f1 := hK1
          clear k0w k1w
          have HK := Aside0.mk hK0
          have hnd : rd_T49 l x = nd l x.toNat := rfl
          have hgood := HF.out.good x.toNat (by omega)
          have hby := nd_bytes HY.out x.toNat
          have hst := HF.out.hst
          have hll := HF.out.hl
          have hRR2 : (if 1048576 < (T ++ lineT (nd l x.toNat)).length then none else restT l d (x.toNat + 1) (T ++ lineT (nd l x.toNat))) = RR := HRR.out
          rw [← hnd] at hgood hby hRR2
          have hkl : (rd_T49 l x).f1.length ≤ 256 := by rcases hgood with h | h <;> omega
          have hkv : ∀ q, q < (rd_T49 l x).f1.length → -9223372036854775808 ≤ rd (rd_T49 l x).f1 q ∧ rd (rd_T49 l x).f1 q ≤ 9223372036854775807 := fun q hq => by
            rcases hgood with h | h
            · omega
            · have := h.2.2 q hq
              omega
          generalize rd_T49 l x = X at *
          obtain ⟨s, ks⟩ := X
          dsimp only at *
          have HR2 := Aside0.mk hRR2
          have HG := Aside0.mk (And.intro hby (And.intro hkl hkv))
          have KL := Aside0.mk (fun j hj => kidsT_len ks hkv j hj)
          clear hK1 hK0 hnd hgood hby hst hll hRR2 hkl hkv hc1 HRR
          obtain ⟨gc0, gc1, gc2, gc3⟩ := four BX.out
          have arm : True := trivial
          by_cases hlf : ks.length = 0
          · have l0_ : ((ks.length : Int) == 0) = true := by simp [hlf]
            have ws_ : wrap64 s = s := by have := HG.out; unfold wrap64; omega
            have hno := eq_false (show ¬ (9223372036854775807 < 2 + (Lib.itoa s).length) by have h3 := HG.out; have := itoa_len s (by omega) (by omega); omega)
            go_upto_region 17 with (first
              | ((with_reducible refine gate_dst (N := 9) rfl ?_); refine box_event ?hg9 (N := 9) ?hd9 (cs := #[.int .u8 0, .slice none 0 0]) (t := 49) ?hr9 ?_; (case hd9 => rfl); (case hg9 => rfl); (case hr9 => first | (go_simp; done) | (go_simp; rfl)); intro g9 hg9 W8 hbox hb; have NB := Aside0.mk hbox; have hb9 := Aside0.mk hb; have y0_ := (blk_cell hbox 0).trans (show _ = some (Value.int .u8 0) from rfl); have y1_ := (blk_cell hbox 1).trans (show _ = some (Value.slice none 0 0) from rfl); have z0_ := blk_frozen hbox 0; have z1_ := blk_frozen hbox 1; have GE := Aside0.mk hg9; clear hbox hb hg9 k0_ k1_ gc0 gc1 gc2 gc3)
              | ((with_reducible refine gate_store (t := 49) (p := 9) rfl ?_); refine store_event (t := 49) (p := 9) (v := ?vo_) (w1 := (W8.setCell ⟨g9, 0, none⟩ (.int .u8 s)).setCell ⟨g9, 1, none⟩ (.slice A1 ks.length c1)) ?hgs ?hos ?hns ?hrs ?_; (case hos => rfl); (case hgs => rfl); (case hns => rfl); (case hrs => first | (go_simp; done) | (go_simp; rfl)); rintro W7 rfl; have hb_ : Below wr.heap.size wr ((W8.setCell ⟨g9, 0, none⟩ (.int .u8 s)).setCell ⟨g9, 1, none⟩ (.slice A1 ks.length c1)) := below_set (below_set hb9.out (Nat.le_of_eq GE.out.symm)) (Nat.le_of_eq GE.out.symm); have nb_ := blk_put (blk_put NB.out 0 (.int .u8 s) rfl) 1 (.slice A1 ks.length c1) rfl; have F_ := Aside0.mk (F.out.on hb_); have m_ := Aside0.mk (blk_below BX.out hb_); clear y0_ y1_ z0_ z1_ F BX NB hb9 GE; generalize (W8.setCell ⟨g9, 0, none⟩ (.int .u8 s)).setCell ⟨g9, 1, none⟩ (.slice A1 ks.length c1) = W7 at *; have F := F_; have BX := m_; have NB := Aside0.mk nb_; have j0_ := (blk_cell nb_ 0).trans (show _ = some (Value.int .u8 s) from rfl); have j1_ := (blk_cell nb_ 1).trans (show _ = some (Value.slice A1 ks.length c1) from rfl); clear F_ m_ nb_ hb_)
              | (go_at_call 52; (with_reducible refine (TP.num F.out (s) (by have := HG.out; omega) (by have := HG.out; omega) HP.out).mono ?_); rintro e_ W9 ⟨rfl, hF_, hk_⟩; have m_ := Kp.box hk_ BX.out (by decide) (by decide); have n_ := Kp.box hk_ NB.out (by decide) (by decide); clear F BX NB hk_ j0_ j1_; have F := Aside0.mk hF_; have BX := Aside0.mk m_; have NB := Aside0.mk n_; have j0_ := (blk_cell n_ 0).trans (show _ = some (Value.int .u8 s) from rfl); have j1_ := (blk_cell n_ 1).trans (show _ = some (Value.slice A1 ks.length c1) from rfl); clear hF_ m_ n_)
              | (go_at_call 51; have h_ := TP.text2 F.out _ ([61, 32] ++ Lib.itoa s) (cat_eq [61, 32] _) (by have := HT.out; have h3 := HG.out; have := itoa_len s (by omega) (by omega); simp only [List.length_append, List.length_cons, List.length_nil]; omega); with_reducible refine h_.mono ?_; clear h_; rintro e_ W9 ⟨⟨v_, rfl⟩, hF_, hk_⟩; have m_ := Kp.box hk_ BX.out (by decide) (by decide); have n_ := Kp.box hk_ NB.out (by decide) (by decide); clear F BX NB hk_ j0_ j1_; have F := Aside0.mk hF_; have BX := Aside0.mk m_; have NB := Aside0.mk n_; have j0_ := (blk_cell n_ 0).trans (show _ = some (Value.int .u8 s) from rfl); have j1_ := (blk_cell n_ 1).trans (show _ = some (Value.slice A1 ks.length c1) from rfl); clear hF_ m_ n_))
            go_wp2
            go_loopg [59] ks.length (fun g2_ s59 wx => ∃ (y : Int), s59 = .int .i64 y ∧ Aside0 (0 ≤ y ∧ (g2_ : Int) = ks.length - y) ∧ Aside0 (TP w b (T ++ ([61, 32] ++ Lib.itoa s) ++ kidsT ks y.toNat) wx) ∧ Aside0 (wx.heap[t]? = some (.cells #[.int .i64 st, .int .i64 n, .slice (some ad) l.length c, .int .i64 rt] 24 (0, 0))))
            case atStart => exact ⟨0, rfl, ⟨by omega, by omega⟩, ⟨by rw [show kidsT ks (0 : Int).toNat = [] from rfl, List.append_nil]; exact F.out⟩, BX⟩
            case round =>
              obtain ⟨y, rfl, HY2, F, BX⟩ := hrel
              clear NB j0_ j1_
              by_cases q2 : y < (ks.length : Int)
              case pos =>
                exfalso
                have := HY2.out
                omega
              case neg =>
                have hy : y.toNat = ks.length := by have := HY2.out; omega
                rw [hy] at F
                have hline : T ++ lineT ⟨s, ks⟩ = T ++ ([61, 32] ++ Lib.itoa s) ++ kidsT ks ks.length ++ [10] := by
                  unfold lineT
                  dsimp only
                  rw [if_pos hlf]
                  simp only [List.append_assoc, List.nil_append]
                have hlen2 : (T ++ ([61, 32] ++ Lib.itoa s) ++ kidsT ks ks.length).length ≤ 2000000 := by
                  have h1 := KL.out ks.length (Nat.le_refl _)
                  have h2 := HT.out
                  have h3 := HG.out
                  (try (have h4 := itoa_len s (by omega) (by omega)))
                  simp only [List.length_append, List.length_cons, List.length_nil]
                  omega
                have HL2 := Aside0.mk hlen2
                rw [hline] at HR2
                clear hline hlen2
                obtain ⟨N, hN⟩ : ∃ N : Int, N = ((T ++ ([61, 32] ++ Lib.itoa s) ++ kidsT ks ks.length ++ [10]).length : Int) := ⟨_, rfl⟩
                have HN := Aside0.mk hN
                by_cases big : 1048576 < (T ++ ([61, 32] ++ Lib.itoa s) ++ kidsT ks ks.length ++ [10]).length
                · have big_ : N > 1048576 := by omega
                  have hRN : none = RR := by
                    have h := HR2.out
                    rw [if_pos big] at h
                    exact h
                  have HRN := Aside0.mk hRN
                  clear hRN big HR2 hN
                  go_wp2_with (first
                    | (go_at_call 53; have h_ := TP.byte F.out 10 10 rfl (by have := HL2.out; omega); with_reducible refine h_.mono ?_; clear h_; rintro e_ W9 ⟨rfl, hF_, hk_⟩; have m_ := Kp.box hk_ BX.out (by decide) (by decide); clear F BX hk_; have F := Aside0.mk hF_; have BX := Aside0.mk m_; clear hF_ m_)
                    | (go_at_call 54; have h_ := TP.len F.out; rw [← HN.out] at h_; with_reducible refine h_.mono ?_; clear h_; rintro e_ W9 ⟨rfl, rfl⟩))
                  go_ret2
                  exact ⟨by rw [HRES.out, ← HRN.out]; rfl, F.out.be⟩
                · have big_ : ¬ N > 1048576 := by omega
                  have HR3 : Aside0 (restT l d (x.toNat + 1) (T ++ ([61, 32] ++ Lib.itoa s) ++ kidsT ks ks.length ++ [10]) = RR) := ⟨by
                    have h := HR2.out
                    rw [if_neg big] at h
                    exact h⟩
                  have HT3 := Aside0.mk (show (T ++ ([61, 32] ++ Lib.itoa s) ++ kidsT ks ks.length ++ [10]).length ≤ 1048576 by omega)
                  clear big HR2 hN
                  go_wp2_with (first
                    | (go_at_call 53; have h_ := TP.byte F.out 10 10 rfl (by have := HL2.out; omega); with_reducible refine h_.mono ?_; clear h_; rintro e_ W9 ⟨rfl, hF_, hk_⟩; have m_ := Kp.box hk_ BX.out (by decide) (by decide); clear F BX hk_; have F := Aside0.mk hF_; have BX := Aside0.mk m_; clear hF_ m_)
                    | (go_at_call 54; have h_ := TP.len F.out; rw [← HN.out] at h_; with_reducible refine h_.mono ?_; clear h_; rintro e_ W9 ⟨rfl, rfl⟩))
                  go_roundg d
                  case measure => go_light; omega
                  case rel =>
                    go_light
                    exact ⟨x + 1, _, by simp [w1_], ⟨by omega, by have := HX.out; omega⟩, ⟨by rw [show (x + 1).toNat = x.toNat + 1 by omega]; exact HR3.out⟩, HT3, F, BX⟩
          · have l0_ : ((ks.length : Int) == 0) = false := by simp [hlf]
            go_upto_region 17 with (first
              | ((with_reducible refine gate_dst (N := 9) rfl ?_); refine box_event ?hg9 (N := 9) ?hd9 (cs := #[.int .u8 0, .slice none 0 0]) (t := 49) ?hr9 ?_; (case hd9 => rfl); (case hg9 => rfl); (case hr9 => first | (go_simp; done) | (go_simp; rfl)); intro g9 hg9 W8 hbox hb; have NB := Aside0.mk hbox; have hb9 := Aside0.mk hb; have y0_ := (blk_cell hbox 0).trans (show _ = some (Value.int .u8 0) from rfl); have y1_ := (blk_cell hbox 1).trans (show _ = some (Value.slice none 0 0) from rfl); have z0_ := blk_frozen hbox 0; have z1_ := blk_frozen hbox 1; have GE := Aside0.mk hg9; clear hbox hb hg9 k0_ k1_ gc0 gc1 gc2 gc3)
              | ((with_reducible refine gate_store (t := 49) (p := 9) rfl ?_); refine store_event (t := 49) (p := 9) (v := ?vo_) (w1 := (W8.setCell ⟨g9, 0, none⟩ (.int .u8 s)).setCell ⟨g9, 1, none⟩ (.slice A1 ks.length c1)) ?hgs ?hos ?hns ?hrs ?_; (case hos => rfl); (case hgs => rfl); (case hns => rfl); (case hrs => first | (go_simp; done) | (go_simp; rfl)); rintro W7 rfl; have hb_ : Below wr.heap.size wr ((W8.setCell ⟨g9, 0, none⟩ (.int .u8 s)).setCell ⟨g9, 1, none⟩ (.slice A1 ks.length c1)) := below_set (below_set hb9.out (Nat.le_of_eq GE.out.symm)) (Nat.le_of_eq GE.out.symm); have nb_ := blk_put (blk_put NB.out 0 (.int .u8 s) rfl) 1 (.slice A1 ks.length c1) rfl; have F_ := Aside0.mk (F.out.on hb_); have m_ := Aside0.mk (blk_below BX.out hb_); clear y0_ y1_ z0_ z1_ F BX NB hb9 GE; generalize (W8.setCell ⟨g9, 0, none⟩ (.int .u8 s)).setCell ⟨g9, 1, none⟩ (.slice A1 ks.length c1) = W7 at *; have F := F_; have BX := m_; have NB := Aside0.mk nb_; have j0_ := (blk_cell nb_ 0).trans (show _ = some (Value.int .u8 s) from rfl); have j1_ := (blk_cell nb_ 1).trans (show _ = some (Value.slice A1 ks.length c1) from rfl); clear F_ m_ nb_ hb_))
            go_wp2
            go_loopg [59] ks.length (fun g2_ s59 wx => ∃ (y : Int), s59 = .int .i64 y ∧ Aside0 (0 ≤ y ∧ (g2_ : Int) = ks.length - y) ∧ Aside0 (TP w b (T ++ kidsT ks y.toNat) wx) ∧ Aside0 (wx.heap[t]? = some (.cells #[.int .i64 st, .int .i64 n, .slice (some ad) l.length c, .int .i64 rt] 24 (0, 0))))
            case atStart => exact ⟨0, rfl, ⟨by omega, by omega⟩, ⟨by rw [show kidsT ks (0 : Int).toNat = [] from rfl, List.append_nil]; exact F.out⟩, BX⟩
            case round =>
              obtain ⟨y, rfl, HY2, F, BX⟩ := hrel
              clear NB j0_ j1_
              by_cases q2 : y < (ks.length : Int)
              case pos =>
                have r0 : 0 ≤ y := HY2.out.1
                have w2_ : wrap64 (y + 1) = y + 1 := by have := HG.out; unfold wrap64; omega
                obtain ⟨a1, rfl, v0_⟩ := Kd.at_int (Kd.C_below HK.out F.out.be) y r0 q2
                have hv := HG.out.2.2 y.toNat (by omega)
                rw [show ((y.toNat : Nat) : Int) = y by omega] at hv
                have hkk : kidsT ks (y + 1).toNat = kidsT ks y.toNat ++ ((if 0 < y.toNat then [32] else []) ++ Lib.itoa (rd ks y)) := by
                  rw [show (y + 1).toNat = y.toNat + 1 by omega]
                  show _ ++ (_ ++ Lib.itoa (rd ks (y.toNat : Int))) = _
                  rw [show ((y.toNat : Nat) : Int) = y by omega]
                have hkl := KL.out y.toNat (by omega)
                have HVV := Aside0.mk hv
                have HKK := Aside0.mk hkk
                have HKL := Aside0.mk hkl
                have HLT := Aside0.mk (show y.toNat ≤ 256 by have := HG.out; omega)
                clear hv hkk hkl
                generalize rd ks y = v at *
                generalize kidsT ks y.toNat = kt at *
                by_cases c2 : y > 0
                · have HKK2 : Aside0 (kidsT ks (y + 1).toNat = kt ++ ([32] ++ Lib.itoa v)) := ⟨by rw [HKK.out, if_pos (by omega)]⟩
                  clear HKK
                  go_wp2_with (first
                    | (go_at_call 53; have h_ := TP.byte F.out 32 32 rfl (by have := HT.out; have := HKL.out; have := HLT.out; have h3 := HG.out; (try (have h4 := itoa_len s (by omega) (by omega))); have := itoa_len v HVV.out.1 HVV.out.2; simp only [List.length_append, List.length_cons, List.length_nil]; omega); with_reducible refine h_.mono ?_; clear h_; rintro e_ W9 ⟨rfl, hF_, hk_⟩; have m_ := Kp.box hk_ BX.out (by decide) (by decide); clear F BX hk_; have F := Aside0.mk hF_; have BX := Aside0.mk m_; clear hF_ m_)
                    | (go_at_call 52; (with_reducible refine (TP.num F.out (v) HVV.out.1 HVV.out.2 HP.out).mono ?_); rintro e_ W9 ⟨rfl, hF_, hk_⟩; have m_ := Kp.box hk_ BX.out (by decide) (by decide); clear F BX hk_; have F := Aside0.mk hF_; have BX := Aside0.mk m_; clear hF_ m_)
                    | (go_at_call 51; have h_ := TP.text2 F.out _ (Lib.itoa v) (rfl) (by have := HT.out; have := HKL.out; have := HLT.out; have h3 := HG.out; (try (have h4 := itoa_len s (by omega) (by omega))); have := itoa_len v HVV.out.1 HVV.out.2; simp only [List.length_append, List.length_cons, List.length_nil]; omega); with_reducible refine h_.mono ?_; clear h_; rintro e_ W9 ⟨⟨v_, rfl⟩, hF_, hk_⟩; have m_ := Kp.box hk_ BX.out (by decide) (by decide); clear F BX hk_; have F := Aside0.mk hF_; have BX := Aside0.mk m_; clear hF_ m_))
                  go_roundg (ks.length - (y + 1).toNat)
                  case measure => go_light; have := HY2.out; omega
                  case rel =>
                    go_light
                    exact ⟨y + 1, by simp [w2_], ⟨by omega, by have := HY2.out; omega⟩, ⟨by rw [HKK2.out]; simpa only [List.append_assoc] using F.out⟩, BX⟩
                · have HKK2 : Aside0 (kidsT ks (y + 1).toNat = kt ++ ([] ++ Lib.itoa v)) := ⟨by rw [HKK.out, if_neg (by omega)]⟩
                  clear HKK
                  go_wp2_with (first
                    | (go_at_call 53; have h_ := TP.byte F.out 32 32 rfl (by have := HT.out; have := HKL.out; have := HLT.out; have h3 := HG.out; (try (have h4 := itoa_len s (by omega) (by omega))); have := itoa_len v HVV.out.1 HVV.out.2; simp only [List.length_append, List.length_cons, List.length_nil]; omega); with_reducible refine h_.mono ?_; clear h_; rintro e_ W9 ⟨rfl, hF_, hk_⟩; have m_ := Kp.box hk_ BX.out (by decide) (by decide); clear F BX hk_; have F := Aside0.mk hF_; have BX := Aside0.mk m_; clear hF_ m_)
                    | (go_at_call 52; (with_reducible refine (TP.num F.out (v) HVV.out.1 HVV.out.2 HP.out).mono ?_); rintro e_ W9 ⟨rfl, hF_, hk_⟩; have m_ := Kp.box hk_ BX.out (by decide) (by decide); clear F BX hk_; have F := Aside0.mk hF_; have BX := Aside0.mk m_; clear hF_ m_)
                    | (go_at_call 51; have h_ := TP.text2 F.out _ (Lib.itoa v) (rfl) (by have := HT.out; have := HKL.out; have := HLT.out; have h3 := HG.out; (try (have h4 := itoa_len s (by omega) (by omega))); have := itoa_len v HVV.out.1 HVV.out.2; simp only [List.length_append, List.length_cons, List.length_nil]; omega); with_reducible refine h_.mono ?_; clear h_; rintro e_ W9 ⟨⟨v_, rfl⟩, hF_, hk_⟩; have m_ := Kp.box hk_ BX.out (by decide) (by decide); clear F BX hk_; have F := Aside0.mk hF_; have BX := Aside0.mk m_; clear hF_ m_))
                  go_roundg (ks.length - (y + 1).toNat)
                  case measure => go_light; have := HY2.out; omega
                  case rel =>
                    go_light
                    exact ⟨y + 1, by simp [w2_], ⟨by omega, by have := HY2.out; omega⟩, ⟨by rw [HKK2.out]; simpa only [List.append_assoc, List.nil_append] using F.out⟩, BX⟩
              case neg =>
                have hy : y.toNat = ks.length := by have := HY2.out; omega
                rw [hy] at F
                have hline : T ++ lineT ⟨s, ks⟩ = T ++ kidsT ks ks.length ++ [10] := by
                  unfold lineT
                  dsimp only
                  rw [if_neg hlf]
                  simp only [List.append_assoc, List.nil_append]
                have hlen2 : (T ++ kidsT ks ks.length).length ≤ 2000000 := by
                  have h1 := KL.out ks.length (Nat.le_refl _)
                  have h2 := HT.out
                  have h3 := HG.out
                  (try (have h4 := itoa_len s (by omega) (by omega)))
                  simp only [List.length_append, List.length_cons, List.length_nil]
                  omega
                have HL2 := Aside0.mk hlen2
                rw [hline] at HR2
                clear hline hlen2
                obtain ⟨N, hN⟩ : ∃ N : Int, N = ((T ++ kidsT ks ks.length ++ [10]).length : Int) := ⟨_, rfl⟩
                have HN := Aside0.mk hN
                by_cases big : 1048576 < (T ++ kidsT ks ks.length ++ [10]).length
                · have big_ : N > 1048576 := by omega
                  have hRN : none = RR := by
                    have h := HR2.out
                    rw [if_pos big] at h
                    exact h
                  have HRN := Aside0.mk hRN
                  clear hRN big HR2 hN
                  go_wp2_with (first
                    | (go_at_call 53; have h_ := TP.byte F.out 10 10 rfl (by have := HL2.out; omega); with_reducible refine h_.mono ?_; clear h_; rintro e_ W9 ⟨rfl, hF_, hk_⟩; have m_ := Kp.box hk_ BX.out (by decide) (by decide); clear F BX hk_; have F := Aside0.mk hF_; have BX := Aside0.mk m_; clear hF_ m_)
                    | (go_at_call 54; have h_ := TP.len F.out; rw [← HN.out] at h_; with_reducible refine h_.mono ?_; clear h_; rintro e_ W9 ⟨rfl, rfl⟩))
                  go_ret2
                  exact ⟨by rw [HRES.out, ← HRN.out]; rfl, F.out.be⟩
                · have big_ : ¬ N > 1048576 := by omega
                  have HR3 : Aside0 (restT l d (x.toNat + 1) (T ++ kidsT ks ks.length ++ [10]) = RR) := ⟨by
                    have h := HR2.out
                    rw [if_neg big] at h
                    exact h⟩
                  have HT3 := Aside0.mk (show (T ++ kidsT ks ks.length ++ [10]).length ≤ 1048576 by omega)
                  clear big HR2 hN
                  go_wp2_with (first
                    | (go_at_call 53; have h_ := TP.byte F.out 10 10 rfl (by have := HL2.out; omega); with_reducible refine h_.mono ?_; clear h_; rintro e_ W9 ⟨rfl, hF_, hk_⟩; have m_ := Kp.box hk_ BX.out (by decide) (by decide); clear F BX hk_; have F := Aside0.mk hF_; have BX := Aside0.mk m_; clear hF_ m_)
                    | (go_at_call 54; have h_ := TP.len F.out; rw [← HN.out] at h_; with_reducible refine h_.mono ?_; clear h_; rintro e_ W9 ⟨rfl, rfl⟩))
                  go_roundg d
                  case measure => go_light; omega
                  case rel =>
                    go_light
                    exact ⟨x + 1, _, by simp [w1_], ⟨by omega, by have := HX.out; omega⟩, ⟨by rw [show (x + 1).toNat = x.toNat + 1 by omega]; exact HR3.out⟩, HT3, F, BX⟩
end Go.Proofs.YtbnonnogkgbpiaaDoor.TreeText
end
section
namespace Go.Proofs.YtbnonnogkgbpiaaDoor.AliveT
open Go Go.RowKit Go.Proofs.YtbnonnogkgbpiaaDoorW.PrintWords Go.Proofs.YtbnonnogkgbpiaaDoorW.PrintLast Go.Proofs.YtbnonnogkgbpiaaDoorW.PrintMore Go.Proofs.YtbnonnogkgbpiaaDoor.PT Go.Proofs.YtbnonnogkgbpiaaDoor.TreePlain Go.Proofs.YtbnonnogkgbpiaaDoor.TreeText Go.Proofs.YtbnonnogkgbpiaaDoor.Forest Go.Proofs.YtbnonnogkgbpiaaDoor.Says
set_option linter.unusedVariables false
def dl : List S49 := [⟨0, []⟩, ⟨1, []⟩, ⟨0, [0, 1]⟩, ⟨0, [1, 0]⟩, ⟨0, [2, 3]⟩]
theorem d_at : tree_At.f 50 2 2 dl 4 [1, 0] = some (1, 0) := by kernel_rfl
theorem d_check : tree_Check.f 50 2 2 dl 4 = some 0 := by kernel_rfl
theorem d_keeps : tree_Keeps.f 50 2 2 dl 4 [1, 0] = some (true, 0) := by kernel_rfl
theorem d_chk : chk 2 2 dl 4 = 0 := by kernel_rfl
theorem d_of : ofP 2 2 [0, 1, 1, 0] = ((2, 2, dl, 4), 0) := by kernel_rfl
theorem d_text : printP 2 2 dl 4 = ([116, 114, 101, 101, 32, 50, 32, 50, 32, 53, 32, 52, 10, 61, 32, 48, 10, 61, 32, 49, 10, 48, 32, 49, 10, 49, 32, 48, 10, 50, 32, 51, 10], 0) := by kernel_rfl
end Go.Proofs.YtbnonnogkgbpiaaDoor.AliveT
end
section
namespace Go.Proofs.YtbnonnogkgbpiaaDoor.AliveT
open Go Go.RowKit Go.Proofs.YtbnonnogkgbpiaaDoorW.PrintWords Go.Proofs.YtbnonnogkgbpiaaDoorW.PrintLast Go.Proofs.YtbnonnogkgbpiaaDoorW.PrintMore Go.Proofs.YtbnonnogkgbpiaaDoor.PT Go.Proofs.YtbnonnogkgbpiaaDoor.TreePlain Go.Proofs.YtbnonnogkgbpiaaDoor.TreeText Go.Proofs.YtbnonnogkgbpiaaDoor.Forest Go.Proofs.YtbnonnogkgbpiaaDoor.Says
set_option linter.unusedVariables false
set_option linter.unusedSimpArgs false
theorem d_bytes : Bytes dl := by
  intro x hx
  simp only [dl, List.mem_cons, List.not_mem_nil, or_false] at hx
  rcases hx with rfl | rfl | rfl | rfl | rfl <;> exact ⟨by decide, by decide⟩
theorem lit_c {W : World} {e : TypeId} (k : IntKind) (xs : List Int) (hm : xs.length ≤ 9223372036854775807) : Kd.C (Kd.int k) (W.alloc (.cells (nums k xs).toArray e)) (some ⟨W.heap.size, 0, none⟩) xs.length xs :=
  Kd.C_of_reads (own_reads' (own_lit W 0 e k xs (Nat.zero_le _) hm))
theorem step_lit {W W6 : World} {o : Obj} (hb : Below (W.alloc o).heap.size (W.alloc o) W6) : Below W.heap.size W W6 := (below_alloc (Below.refl _ W) o).trans (hb.mono (by simp))
theorem d_of_calls (A0 : Option Addr) (c0 : Nat) (w1 : World) (h : Kd.C (Kd.int .u8) w1 A0 [0, 1, 1, 0].length [0, 1, 1, 0]) (hc : 4 ≤ c0) :
    Calls Tryd.prog 21 #[.agg #[.int .i64 2, .int .i64 2, .slice A0 4 c0]] w1 fun e w' => (∃ A c, e = .returned (.tuple #[.agg #[.int .i64 2, .int .i64 2, .slice A 5 c, .int .i64 4], .int .i64 0]) ∧ 5 ≤ c ∧ Kd.C k49 w' A dl.length dl) ∧ Below w1.heap.size w1 w' := by
  have h_ := law_of_calls 2 2 A0 c0 [0, 1, 1, 0] w1 h hc (by decide) (by decide)
  rw [d_of] at h_
  refine h_.mono ?_
  rintro e w' ⟨⟨nv, rfl, hr⟩, hb⟩
  obtain ⟨A, c, rfl, hc, hC⟩ := Kd.R_reads hr
  exact ⟨⟨A, c, rfl, hc, hC⟩, hb⟩
theorem d_at_calls (A : Option Addr) (c : Nat) (W : World) (h : Kd.C k49 W A dl.length dl) (hc : 5 ≤ c) (A1 : Option Addr) (h1 : Kd.C (Kd.int .u8) W A1 [1, 0].length [1, 0]) :
    Calls Tryd.prog 24 #[.agg #[.int .i64 2, .int .i64 2, .slice A 5 c, .int .i64 4], .slice A1 2 2] W fun e w' => e = .returned (.tuple #[.int .u8 1, .int .i64 0]) ∧ Below W.heap.size W w' :=
  tree_At.calls 50 2 2 A c dl 4 A1 2 [1, 0] 1 0 W h hc h1 (by decide) d_at
theorem d_keeps_calls (A : Option Addr) (c : Nat) (W : World) (h : Kd.C k49 W A dl.length dl) (hc : 5 ≤ c) (A1 : Option Addr) (h1 : Kd.C (Kd.int .i64) W A1 [1, 0].length [1, 0]) :
    Calls Tryd.prog 40 #[.agg #[.int .i64 2, .int .i64 2, .slice A 5 c, .int .i64 4], .slice A1 2 2] W fun e w' => e = .returned (.tuple #[.bool true, .int .i64 0]) ∧ Below W.heap.size W w' :=
  tree_Keeps.calls 50 2 2 A c dl 4 A1 2 [1, 0] true 0 W h hc h1 (by decide) d_keeps
theorem d_print_calls (A : Option Addr) (c : Nat) (W : World) (hp : Pow W) (h : Kd.C k49 W A dl.length dl) (hc : 5 ≤ c) :
    Calls Tryd.prog 17 #[.agg #[.int .i64 2, .int .i64 2, .slice A 5 c, .int .i64 4]] W fun e w' => e = .returned (.tuple #[.string ⟨#[116, 114, 101, 101, 32, 50, 32, 50, 32, 53, 32, 52, 10, 61, 32, 48, 10, 61, 32, 49, 10, 48, 32, 49, 10, 49, 32, 48, 10, 50, 32, 51, 10]⟩, .int .i64 0]) ∧ Below W.heap.size W w' := by
  have h_ := print_ok 50 2 2 A c dl 4 W hp h hc d_check (chk_zero d_chk) d_bytes
  rw [d_text] at h_
  exact h_
set_option maxHeartbeats 8000000 in
set_option maxRecDepth 100000 in
theorem alive_calls (w : World) (hp : Pow w) : Calls Tryd.prog 16 #[] w fun e w' => e = .returned (.bool true) ∧ Below w.heap.size w w' := by
  have hu := Tryd.underlying24
  have HB := Aside0.mk (Below.refl w.heap.size w)
  have HP := Aside0.mk hp
  clear hp
  go_enter Tryd.func16, Tryd.ntmps16
  go_wp2_with (first
    | (go_at_call 50; (with_reducible refine (vivariumlaw11_differ.calls 2 2 [0, 1, 1, 0] _ rfl).mono ?_); rintro e_ w1 ⟨v2_, rfl, hr_, hb_⟩; obtain ⟨A0, c0, rfl, hc0, hC0⟩ := Kd.R_reads hr_; have HC0 := Aside0.mk hC0; have HL0 := Aside0.mk (show 4 ≤ c0 from hc0); have HB1 := Aside0.mk (HB.out.trans (hb_.mono HB.out.size)); clear hr_ hb_ hc0 hC0 HB; have HB := HB1; clear HB1)
    | (go_at_call 21; (with_reducible refine (d_of_calls A0 c0 _ HC0.out HL0.out).mono ?_); rintro e_ w2 ⟨⟨A, c, rfl, hc, hC⟩, hb_⟩; have HC := Aside0.mk hC; have HL := Aside0.mk (show 5 ≤ c from hc); have HB1 := Aside0.mk (HB.out.trans (hb_.mono HB.out.size)); clear hb_ hc hC HB HC0 HL0; have HB := HB1; clear HB1)
    | ((with_reducible refine gate_dst (N := 1) rfl ?_); refine box_event ?hg (N := 1) ?hd (cs := #[.int .i64 0, .int .i64 0, .slice none 0 0, .int .i64 0]) (t := 24) ?hr ?_; (case hd => rfl); (case hg => rfl); (case hr => first | (go_simp; done) | (go_simp; rfl)); intro g9 hg9 W8 hbox hb; have NB := Aside0.mk hbox; have hb9 := Aside0.mk hb; obtain ⟨y0_, y1_, y2_, y3_⟩ := four hbox; have z0_ := blk_frozen hbox 0; have z1_ := blk_frozen hbox 1; have z2_ := blk_frozen hbox 2; have z3_ := blk_frozen hbox 3; have GE := Aside0.mk hg9; clear hbox hb hg9)
    | ((with_reducible refine gate_store (t := 24) (p := 1) rfl ?_); refine store_event (t := 24) (p := 1) (v := ?vo_) (w1 := (((W8.setCell ⟨g9, 0, none⟩ (.int .i64 2)).setCell ⟨g9, 1, none⟩ (.int .i64 2)).setCell ⟨g9, 2, none⟩ (.slice A 5 c)).setCell ⟨g9, 3, none⟩ (.int .i64 4)) ?hgs ?hos ?hns ?hrs ?_; (case hos => rfl); (case hgs => rfl); (case hns => rfl); (case hrs => first | (go_simp; done) | (go_simp; rfl)); rintro W7 rfl; have hb_ : Below w2.heap.size w2 ((((W8.setCell ⟨g9, 0, none⟩ (.int .i64 2)).setCell ⟨g9, 1, none⟩ (.int .i64 2)).setCell ⟨g9, 2, none⟩ (.slice A 5 c)).setCell ⟨g9, 3, none⟩ (.int .i64 4)) := below_set (below_set (below_set (below_set hb9.out (Nat.le_of_eq GE.out.symm)) (Nat.le_of_eq GE.out.symm)) (Nat.le_of_eq GE.out.symm)) (Nat.le_of_eq GE.out.symm); have nb_ := blk_put (blk_put (blk_put (blk_put NB.out 0 (.int .i64 2) rfl) 1 (.int .i64 2) rfl) 2 (.slice A 5 c) rfl) 3 (.int .i64 4) rfl; have HB1 := Aside0.mk (HB.out.trans (hb_.mono HB.out.size)); have HC1 := Aside0.mk (Kd.C_below HC.out hb_); clear y0_ y1_ y2_ y3_ z0_ z1_ z2_ z3_ HB HC NB hb9 GE hb_; generalize (((W8.setCell ⟨g9, 0, none⟩ (.int .i64 2)).setCell ⟨g9, 1, none⟩ (.int .i64 2)).setCell ⟨g9, 2, none⟩ (.slice A 5 c)).setCell ⟨g9, 3, none⟩ (.int .i64 4) = W7 at *; have HB := HB1; have HC := HC1; have NB := Aside0.mk nb_; obtain ⟨y0_, y1_, y2_, y3_⟩ := four nb_; clear HB1 HC1 nb_)
    | (go_at_call 24; (with_reducible refine (d_at_calls A c _ (Kd.C_below HC.out (below_alloc (Below.refl _ _) _)) HL.out _ (lit_c (e := 5) .u8 [1, 0] (by decide))).mono ?_); rintro e_ W6 ⟨rfl, hb_⟩; have hb2_ := step_lit hb_; have HB1 := Aside0.mk (HB.out.trans (hb2_.mono HB.out.size)); have HC1 := Aside0.mk (Kd.C_below HC.out hb2_); have NB1 := Aside0.mk (blk_below NB.out hb2_); clear HB HC NB y0_ y1_ y2_ y3_ hb_ hb2_; have HB := HB1; have HC := HC1; have NB := NB1; obtain ⟨y0_, y1_, y2_, y3_⟩ := four NB.out; clear HB1 HC1 NB1)
    | (go_at_call 17; (with_reducible refine (d_print_calls A c _ (HP.out.on HB.out) HC.out HL.out).mono ?_); rintro e_ W5 ⟨rfl, hb_⟩; have HB1 := Aside0.mk (HB.out.trans (hb_.mono HB.out.size)); have HC1 := Aside0.mk (Kd.C_below HC.out hb_); have NB1 := Aside0.mk (blk_below NB.out hb_); clear HB HC NB y0_ y1_ y2_ y3_ hb_; have HB := HB1; have HC := HC1; have NB := NB1; obtain ⟨y0_, y1_, y2_, y3_⟩ := four NB.out; clear HB1 HC1 NB1)
    | (go_at_call 40; (with_reducible refine (d_keeps_calls A c _ (Kd.C_below HC.out (below_alloc (Below.refl _ _) _)) HL.out _ (lit_c (e := 3) .i64 [1, 0] (by decide))).mono ?_); rintro e_ W4 ⟨rfl, hb_⟩; have hb2_ := step_lit hb_; have HB1 := Aside0.mk (HB.out.trans (hb2_.mono HB.out.size)); have HC1 := Aside0.mk (Kd.C_below HC.out hb2_); have NB1 := Aside0.mk (blk_below NB.out hb2_); clear HB HC NB y0_ y1_ y2_ y3_ hb_ hb2_; have HB := HB1; have HC := HC1; have NB := NB1; obtain ⟨y0_, y1_, y2_, y3_⟩ := four NB.out; clear HB1 HC1 NB1))
  go_ret
  exact ⟨rfl, HB.out⟩
end Go.Proofs.YtbnonnogkgbpiaaDoor.AliveT
end
section
namespace Go.Proofs.YtbnonnogkgbpiaaDoor.AliveT
open Go Go.RowKit Go.Proofs.YtbnonnogkgbpiaaDoorW.PrintWords Go.Proofs.YtbnonnogkgbpiaaDoorW.PrintLast Go.Proofs.YtbnonnogkgbpiaaDoorW.PrintMore Go.Proofs.YtbnonnogkgbpiaaDoor.PT Go.Proofs.YtbnonnogkgbpiaaDoor.TreePlain Go.Proofs.YtbnonnogkgbpiaaDoor.TreeText Go.Proofs.YtbnonnogkgbpiaaDoor.Forest Go.Proofs.YtbnonnogkgbpiaaDoor.Says
set_option linter.unusedVariables false
set_option linter.unusedSimpArgs false
end Go.Proofs.YtbnonnogkgbpiaaDoor.AliveT
end
section
namespace Go.Proofs.YtbnonnogkgbpiaaDoor.LentT
open Go Go.RowKit Go.Proofs.YtbnonnogkgbpiaaDoorW.PrintWords Go.Proofs.YtbnonnogkgbpiaaDoorW.PrintLast Go.Proofs.YtbnonnogkgbpiaaDoorW.PrintMore Go.Proofs.YtbnonnogkgbpiaaDoor.PT Go.Proofs.YtbnonnogkgbpiaaDoor.TreePlain Go.Proofs.YtbnonnogkgbpiaaDoor.TreeText
set_option linter.unusedVariables false
set_option linter.unusedSimpArgs false
theorem four {W : World} {t ty : Nat} {v0 v1 v2 v3 : Value} (h : W.heap[t]? = some (.cells #[v0, v1, v2, v3] ty (0, 0))) : W.cell? ⟨t, 0, none⟩ = some v0 ∧ W.cell? ⟨t, 1, none⟩ = some v1 ∧ W.cell? ⟨t, 2, none⟩ = some v2 ∧ W.cell? ⟨t, 3, none⟩ = some v3 :=
  ⟨(blk_cell h 0).trans rfl, (blk_cell h 1).trans rfl, (blk_cell h 2).trans rfl, (blk_cell h 3).trans rfl⟩
theorem lit_c {W : World} {e : TypeId} (k : IntKind) (xs : List Int) (hm : xs.length ≤ 9223372036854775807) : Kd.C (Kd.int k) (W.alloc (.cells (nums k xs).toArray e)) (some ⟨W.heap.size, 0, none⟩) xs.length xs :=
  Kd.C_of_reads (own_reads' (own_lit W 0 e k xs (Nat.zero_le _) hm))
def SC (t : Nat) (ad : Addr) (x : Int) (N : Value) (s : Int) (v : Value) (W : World) : Prop := W.cell? ⟨t, 2, none⟩ = some N ∧ W.cell? (ad.add (x.toNat * 2)) = some (.int .u8 s) ∧ W.cell? ⟨(ad.add (x.toNat * 2)).block, (ad.add (x.toNat * 2)).off + 1, none⟩ = some v
theorem SC.on {t : Nat} {ad : Addr} {x : Int} {N : Value} {s : Int} {v : Value} {W W' : World} (h : SC t ad x N s v W) (hb : Below W.heap.size W W') : SC t ad x N s v W' := ⟨pw_cell_below hb h.1, pw_cell_below hb h.2.1, pw_cell_below hb h.2.2⟩
end Go.Proofs.YtbnonnogkgbpiaaDoor.LentT
end
section
namespace Go.Proofs.YtbnonnogkgbpiaaDoor.LentT
open Go Go.RowKit Go.Proofs.YtbnonnogkgbpiaaDoorW.PrintWords Go.Proofs.YtbnonnogkgbpiaaDoorW.PrintLast Go.Proofs.YtbnonnogkgbpiaaDoorW.PrintMore Go.Proofs.YtbnonnogkgbpiaaDoor.PT Go.Proofs.YtbnonnogkgbpiaaDoor.TreePlain Go.Proofs.YtbnonnogkgbpiaaDoor.TreeText
set_option linter.unusedVariables false
set_option linter.unusedSimpArgs false
section
variable {B : Nat} {W : World} {nv : Value} {l : List S49} {m : Nat} {K : List (Nat × Nat)}
end
def Kq (W W' : World) : Prop := ∀ (k : Nat) (cs : Array Value) (ty : TypeId) (fz : Nat × Nat), W.heap[k]? = some (.cells cs ty fz) → ty ≠ 49 → ty ≠ 3 → W'.heap[k]? = some (.cells cs ty fz)
theorem Kq.refl (W : World) : Kq W W := fun _ _ _ _ h _ _ => h
theorem Kq.trans {W W1 W2 : World} (h : Kq W W1) (g : Kq W1 W2) : Kq W W2 := fun k cs ty fz hk a b => g k cs ty fz (h k cs ty fz hk a b) a b
theorem Kq.below {W W' : World} (hb : Below W.heap.size W W') : Kq W W' := fun k cs ty fz h _ _ => (hb.block k (blk_lt h)).trans h
theorem Kq.set {W : World} {p j : Nat} {v : Value} {cs : Array Value} {t : TypeId} {f : Nat × Nat} (h : W.heap[p]? = some (.cells cs t f)) (ht : t = 49 ∨ t = 3) : Kq W (W.setCell ⟨p, j, none⟩ v) := by
  intro q cs' t' f' hk a b
  refine (Below.heap_setCell _ ⟨p, j, none⟩ _ _ (fun e => ?_)).trans hk
  rw [show q = p from e, h] at hk
  injection hk with hk
  injection hk with _ hk
  subst hk
  rcases ht with h0 | h0
  · exact a h0
  · exact b h0
theorem Kq.box {W W' : World} (h : Kq W W') {k : Nat} {cs : Array Value} {ty : TypeId} {fz : Nat × Nat} (hx : W.heap[k]? = some (.cells cs ty fz)) (h1 : ty ≠ 49) (h2 : ty ≠ 3) : W'.heap[k]? = some (.cells cs ty fz) := h k cs ty fz hx h1 h2
end Go.Proofs.YtbnonnogkgbpiaaDoor.LentT
end
section
namespace Go.Proofs.YtbnonnogkgbpiaaDoor.LentT
open Go Go.RowKit Go.Proofs.YtbnonnogkgbpiaaDoorW.PrintWords Go.Proofs.YtbnonnogkgbpiaaDoorW.PrintLast Go.Proofs.YtbnonnogkgbpiaaDoorW.PrintMore Go.Proofs.YtbnonnogkgbpiaaDoor.PT Go.Proofs.YtbnonnogkgbpiaaDoor.TreePlain Go.Proofs.YtbnonnogkgbpiaaDoor.TreeText
set_option linter.unusedVariables false
set_option linter.unusedSimpArgs false
section
variable {B : Nat} {W : World} {l : List S49} {K : List (Nat × Nat)} {gn cn : Nat}
theorem LentAt.node (h : LentAt B W (.slice (some ⟨gn, 0, none⟩) (l.length + 2) cn) l l.length 2 K) (j : Nat) (hj : j < l.length) : ∃ g c, K[j]? = some (g, c) ∧ W.cell? ⟨gn, j * 2, none⟩ = some (.int .u8 (nd l j).f0) ∧ W.cell? ⟨gn, j * 2 + 1, none⟩ = some (.slice (some ⟨g, 0, none⟩) (nd l j).f1.length c) ∧ (nd l j).f1.length + 2 ≤ c ∧ W.cell? ⟨g, (nd l j).f1.length, none⟩ = some (.int .i64 (-7)) ∧ W.cell? ⟨g, (nd l j).f1.length + 1, none⟩ = some (.int .i64 (-8)) := by
  have hjK : j < K.length := by rw [h.len]; exact hj
  obtain ⟨⟨g, c⟩, hk⟩ : ∃ p, K[j]? = some p := ⟨_, List.getElem?_eq_getElem hjK⟩
  have hkd : K.getD j (0, 0) = (g, c) := by rw [List.getD_eq_getElem?_getD, hk]; rfl
  have ho := h.kid j _ _ hk
  obtain ⟨q1, q2⟩ := lcells_at l K l.length j (marks2 2) hj
  rw [hkd] at q2
  have c1 := h.row.cellAt (2 * j) (by omega)
  have c2 := h.row.cellAt (2 * j + 1) (by omega)
  rw [q1] at c1
  rw [q2] at c2
  have d1 := ho.cellAt (nd l j).f1.length (by omega)
  have d2 := ho.cellAt ((nd l j).f1.length + 1) (by omega)
  refine ⟨g, c, hk, by rw [Nat.mul_comm]; exact c1, by rw [Nat.mul_comm]; exact c2, own_cap ho, ?_, ?_⟩
  · rw [d1]
    simp [nums]
  · rw [d2]
    simp [nums]
end
end Go.Proofs.YtbnonnogkgbpiaaDoor.LentT
end
section
namespace Go.Proofs.YtbnonnogkgbpiaaDoor.LentT
open Go Go.RowKit Go.Proofs.YtbnonnogkgbpiaaDoorW.PrintWords Go.Proofs.YtbnonnogkgbpiaaDoorW.PrintLast Go.Proofs.YtbnonnogkgbpiaaDoorW.PrintMore Go.Proofs.YtbnonnogkgbpiaaDoor.PT Go.Proofs.YtbnonnogkgbpiaaDoor.TreePlain Go.Proofs.YtbnonnogkgbpiaaDoor.TreeText
set_option linter.unusedVariables false
set_option linter.unusedSimpArgs false
end Go.Proofs.YtbnonnogkgbpiaaDoor.LentT
end
section
namespace Go.Proofs.YtbnonnogkgbpiaaDoor.PT
open Go.RowKit Go.Proofs.YtbnonnogkgbpiaaDoorW.PrintWords Go.Proofs.YtbnonnogkgbpiaaDoorW.PrintLast Go.Proofs.YtbnonnogkgbpiaaDoorW.PrintMore
attribute [local go_sem] max2_int min2_int max_two min_two max_three min_three max_four min_four   -- for this text's walks alone
set_option linter.unusedVariables false
set_option linter.unusedSimpArgs false
end Go.Proofs.YtbnonnogkgbpiaaDoor.PT
end
section
namespace Go.Proofs.YtbnonnogkgbpiaaDoor.TreePlain
open Go Go.RowKit Go.Proofs.YtbnonnogkgbpiaaDoorW.PrintWords Go.Proofs.YtbnonnogkgbpiaaDoorW.PrintLast Go.Proofs.YtbnonnogkgbpiaaDoorW.PrintMore Go.Proofs.YtbnonnogkgbpiaaDoor.PT Go.Proofs.YtbnonnogkgbpiaaDoor.TreeText
set_option linter.unusedVariables false
set_option linter.unusedSimpArgs false
section
variable {st n rt : Int} {l : List S49}
end
end Go.Proofs.YtbnonnogkgbpiaaDoor.TreePlain
end
section
namespace Go.Proofs.YtbnonnogkgbpiaaDoor.LentT
open Go Go.RowKit Go.Proofs.YtbnonnogkgbpiaaDoorW.PrintWords Go.Proofs.YtbnonnogkgbpiaaDoorW.PrintLast Go.Proofs.YtbnonnogkgbpiaaDoorW.PrintMore Go.Proofs.YtbnonnogkgbpiaaDoor.PT Go.Proofs.YtbnonnogkgbpiaaDoor.TreePlain Go.Proofs.YtbnonnogkgbpiaaDoor.TreeText
set_option linter.unusedVariables false
set_option linter.unusedSimpArgs false
structure TA (w W : World) (st n rt : Int) (A : Option Addr) (c : Nat) (l : List S49) (t2 t6 gn cn : Nat) (K : List (Nat × Nat)) (L : List S49) (k : IntKind) (ty : TypeId) (vf : Value) (ys : List Int) : Prop where
  b2 : W.heap[t2]? = some (.cells #[.int .i64 st, .int .i64 n, .slice A l.length c, .int .i64 rt] 24 (0, 0))
  b6 : W.heap[t6]? = some (.cells #[.int .i64 st, .int .i64 n, .slice (some ⟨gn, 0, none⟩) l.length cn, .int .i64 rt] 24 (0, 0))
  la : LentAt w.heap.size W (.slice (some ⟨gn, 0, none⟩) (l.length + 2) cn) L l.length 2 K
  fu : Kd.R (Kd.int k) ty W w.heap.size (fun q => w.heap.size ≤ q ∧ (∀ p ∈ K, p.1 ≠ q) ∧ q ≠ gn) vf ys
  be : Below w.heap.size w W
section
variable {w W W' : World} {st n rt : Int} {A : Option Addr} {c : Nat} {l : List S49} {t2 t6 gn cn : Nat} {K : List (Nat × Nat)} {L : List S49} {k : IntKind} {ty : TypeId} {vf : Value} {ys : List Int}
theorem TA.on (h : TA w W st n rt A c l t2 t6 gn cn K L k ty vf ys) (hb : Below W.heap.size W W') : TA w W' st n rt A c l t2 t6 gn cn K L k ty vf ys :=
  ⟨blk_below h.b2 hb, blk_below h.b6 hb, h.la.on hb, Kd.R_below h.fu hb, h.be.trans (hb.mono h.be.size)⟩
theorem TA.new (h : TA w W st n rt A c l t2 t6 gn cn K L k ty vf ys) : ∀ q, W.heap.size ≤ q → w.heap.size ≤ q ∧ (∀ p ∈ K, p.1 ≠ q) ∧ q ≠ gn := by
  intro q hq
  refine ⟨Nat.le_trans h.be.size hq, fun p hp e => ?_, fun e => ?_⟩
  · obtain ⟨j, hj, e2⟩ := List.mem_iff_getElem.1 hp
    have := own_lt (h.la.kid j p.1 p.2 (by rw [List.getElem?_eq_getElem hj, e2])) p.1 rfl
    omega
  · have := own_lt h.la.row gn rfl
    omega
theorem TA.grow {v1 : Value} {zs : List Int} (h : TA w W st n rt A c l t2 t6 gn cn K L k ty vf ys) (ht : ty ≠ 24) (ho : Kd.R (Kd.int k) ty W' w.heap.size (fun q => w.heap.size ≤ q ∧ (∀ p ∈ K, p.1 ≠ q) ∧ q ≠ gn) v1 zs) (hb : Below w.heap.size w W') (hg : W.grownBy W' vf.ownBlock) : TA w W' st n rt A c l t2 t6 gn cn K L k ty v1 zs := by
  have hok := h.fu.1
  refine ⟨blk_grown h.b2 hg (fun e => ?_), blk_grown h.b6 hg (fun e => ?_), h.la.move (fun q hq => ?_) (fun p hp => ?_), ho, hb⟩
  · obtain ⟨cs, hc⟩ := Kd.R_typed h.fu t2 e.symm
    rw [h.b2] at hc
    injection hc with hc
    injection hc with _ hc
    exact ht hc.symm
  · obtain ⟨cs, hc⟩ := Kd.R_typed h.fu t6 e.symm
    rw [h.b6] at hc
    injection hc with hc
    injection hc with _ hc
    exact ht hc.symm
  · obtain rfl : gn = q := by simpa [Value.ownBlock] using hq
    exact hg.block gn (own_lt h.la.row gn rfl) (fun e => (hok gn e.symm).2.2 rfl)
  · obtain ⟨j, hj, e2⟩ := List.mem_iff_getElem.1 hp
    exact hg.block p.1 (own_lt (h.la.kid j p.1 p.2 (by rw [List.getElem?_eq_getElem hj, e2])) p.1 rfl) (fun e => (hok p.1 e.symm).2.1 p hp rfl)
end
theorem take_app (xs ys : List Int) : (xs ++ ys).take xs.length = xs := List.take_left' rfl
theorem TA.front {w W : World} {st n rt : Int} {A : Option Addr} {c : Nat} {l : List S49} {t2 t6 gn cn : Nat} {K : List (Nat × Nat)} {L : List S49} {k : IntKind} {ty : TypeId} {gf cf m : Nat} {xs ys : List Int} (h : TA w W st n rt A c l t2 t6 gn cn K L k ty (.slice (some ⟨gf, 0, none⟩) m cf) (xs ++ ys)) : Kd.C (Kd.int k) W (some ⟨gf, 0, none⟩) xs.length xs ∧ xs.length ≤ cf := by
  have h1 := Kd.R_take h.fu (m := xs.length) (by simp)
  rw [take_app] at h1
  have h2 := Kd.R_reads' h1
  exact ⟨h2.2.2, h2.2.1⟩
theorem TA.cells {w W : World} {st n rt : Int} {A : Option Addr} {c : Nat} {l : List S49} {t2 t6 gn cn : Nat} {K : List (Nat × Nat)} {L : List S49} {k : IntKind} {ty : TypeId} {vf : Value} {ys : List Int} (h : TA w W st n rt A c l t2 t6 gn cn K L k ty vf ys) : (W.cell? ⟨t2, 0, none⟩ = some (.int .i64 st) ∧ W.cell? ⟨t2, 1, none⟩ = some (.int .i64 n) ∧ W.cell? ⟨t2, 2, none⟩ = some (.slice A l.length c) ∧ W.cell? ⟨t2, 3, none⟩ = some (.int .i64 rt)) ∧ (W.cell? ⟨t6, 0, none⟩ = some (.int .i64 st) ∧ W.cell? ⟨t6, 1, none⟩ = some (.int .i64 n) ∧ W.cell? ⟨t6, 2, none⟩ = some (.slice (some ⟨gn, 0, none⟩) l.length cn) ∧ W.cell? ⟨t6, 3, none⟩ = some (.int .i64 rt)) := ⟨four h.b2, four h.b6⟩
end Go.Proofs.YtbnonnogkgbpiaaDoor.LentT
end
section
namespace Go.Proofs.YtbnonnogkgbpiaaDoor.OwnZ
open Go Go.RowKit Go.Proofs.YtbnonnogkgbpiaaDoorW.PrintWords
set_option linter.unusedVariables false
set_option linter.unusedSimpArgs false
def OwnB (w : World) (B : Nat) (v : Value) (l : List UInt8) : Prop :=
  ∃ g cap cur fz, v = .slice (some ⟨g, 0, none⟩) l.length cap ∧ B ≤ g ∧ w.heap[g]? = some (.cells cur 5 fz) ∧ (fz = (0, 0) ∨ cap ≤ fz.1) ∧ l.length ≤ cap ∧ cap ≤ maxLen ∧ cur.size = cap ∧ cur.toList.take l.length = Lib.byteCells l
section
variable {w w' : World} {B : Nat} {v : Value} {l : List UInt8}
theorem OwnB.on (h : OwnB w B v l) (hb : Below w.heap.size w w') : OwnB w' B v l := by
  obtain ⟨g, cap, cur, fz, h1, h2, h3, h4⟩ := h
  have hlt : g < w.heap.size := by
    rcases Nat.lt_or_ge g w.heap.size with h' | h'
    · exact h'
    · simp [Array.getElem?_eq_none h'] at h3
  exact ⟨g, cap, cur, fz, h1, h2, (hb.block g hlt).trans h3, h4⟩
theorem OwnB.cells (h : OwnB w B v l) : ∃ g cap, v = .slice (some ⟨g, 0, none⟩) l.length cap ∧ ∀ j u, (Lib.byteCells l)[j]? = some u → w.cell? ⟨g, j, none⟩ = some u := by
  obtain ⟨g, cap, cur, fz, h1, h2, h3, h4, h5, h6, h7, h8⟩ := h
  refine ⟨g, cap, h1, fun j u hj => ?_⟩
  have hj1 : j < l.length := by
    have := (List.getElem?_eq_some_iff.1 hj).1
    rwa [Lib.byteCells_length] at this
  have hj2 : j < cur.size := by omega
  rw [← h8, List.getElem?_take_of_lt hj1] at hj
  simp only [World.cell?, h3]
  rw [← Array.getElem?_toList]
  exact hj
theorem OwnB.grown (w : World) (B : Nat) (hB : B ≤ w.heap.size) (l : List UInt8) (n : Nat) (hn : l.length = n) (c : Nat) (hc : n ≤ c) (hm : c ≤ maxLen) (cs : Array Value) (hcs : cs.size = c) (ht : cs.toList.take n = Lib.byteCells l) : OwnB (w.drew.alloc (.cells cs 5)) B (.slice (some ⟨w.heap.size, 0, none⟩) n c) l ∧ ∀ row, w.grownBy (w.drew.alloc (.cells cs 5)) row := by
  subst hn
  exact ⟨⟨w.heap.size, c, cs, (0, 0), rfl, hB, heap_alloc_new w.drew _, .inl rfl, hc, hm, hcs, ht⟩, fun row => ⟨rfl, rfl, rfl, by simp, fun k hk _ => heap_alloc_old w.drew _ hk⟩⟩
section
variable {ops : Array Oper} {rest : List Oper} {o : Oper} {a : Act} {Q : Exit → Act → World → Prop}
end
end
end Go.Proofs.YtbnonnogkgbpiaaDoor.OwnZ
end
section
namespace Go.Proofs.YtbnonnogkgbpiaaDoor.OwnZ
open Go Go.RowKit Go.Proofs.YtbnonnogkgbpiaaDoorW.PrintWords Go.Proofs.YtbnonnogkgbpiaaDoor.TreeText
set_option linter.unusedVariables false
set_option linter.unusedSimpArgs false
theorem str_back (l : List UInt8) : strOfNums (l.map fun b => (b.toNat : Int)) = ⟨l.toArray⟩ := by
  apply ByteArray.ext
  have e : (l.map ((fun n : Int => UInt8.ofNat n.toNat) ∘ fun b : UInt8 => (b.toNat : Int))) = l := by
    conv => rhs; rw [← List.map_id l]
    apply List.map_congr_left
    intro b _
    simp
  simp [strOfNums, e]
set_option maxRecDepth 100000 in
theorem OwnB.text {w : World} {B : Nat} {l : List UInt8} {A : Option Addr} {n c : Nat} (h : OwnB w B (.slice A n c) l) (hl : l.length ≤ 1000000000) : (convert 33 9 (.slice A n c)).run Tryd.prog w = .ok (.string ⟨l.toArray⟩) w := by
  obtain ⟨g, cap, e, hc⟩ := h.cells
  injection e with e1 e2 e3
  subst e1 e2 e3
  have hC : Kd.C (Kd.int .u8) w (some ⟨g, 0, none⟩) l.length (l.map fun b => (b.toNat : Int)) := by
    refine Kd.C_of_reads (d := 0) ⟨by simp, by omega, fun _ => ⟨_, rfl, fun j hj => ?_⟩⟩
    have hj2 : (Lib.byteCells l)[j]? = some (.int .u8 ((l.map fun b => (b.toNat : Int)).getD j 0)) := by
      simp [Lib.byteCells, List.getD_eq_getElem?_getD, List.getElem?_map, List.getElem?_eq_getElem hj]
    have := hc j _ hj2
    rw [show (⟨g, 0, none⟩ : Addr).add j = ⟨g, j, none⟩ from by unfold Addr.add; split <;> simp_all]
    exact this
  have h2 := Kd.C_string (P := Tryd.prog) (c := c) Tryd.underlying33 Tryd.underlying5 Tryd.underlying9 hC
  rw [str_back] at h2
  exact h2
structure RP (w W : World) (st n rt : Int) (A : Option Addr) (m c : Nat) (t : Nat) (v : Value) (T : List UInt8) : Prop where
  own : OwnB W w.heap.size v T
  bx : W.heap[t]? = some (.cells #[.int .i64 st, .int .i64 n, .slice A m c, .int .i64 rt] 24 (0, 0))
  be : Below w.heap.size w W
section
variable {w W W' : World} {st n rt : Int} {A : Option Addr} {m c t : Nat} {v v' : Value} {T T' : List UInt8}
theorem RP.on (h : RP w W st n rt A m c t v T) (hb : Below W.heap.size W W') : RP w W' st n rt A m c t v T := ⟨h.own.on hb, blk_below h.bx hb, h.be.trans (hb.mono h.be.size)⟩
theorem RP.grow (h : RP w W st n rt A m c t v T) (ho : OwnB W' w.heap.size v' T') (hg : W.grownBy W' v.ownBlock) : RP w W' st n rt A m c t v' T' := by
  obtain ⟨g, cap, cur, fz, rfl, h2, h3, h4⟩ := h.own
  refine ⟨ho, blk_grown h.bx hg (fun e => ?_), h.be.grown hg h.be.size (fun k hk => ?_)⟩
  · obtain rfl : t = g := by simpa [Value.ownBlock] using e
    rw [h.bx] at h3
    injection h3 with h3
    injection h3 with _ h3
    exact absurd h3 (by decide)
  · obtain rfl : g = k := by simpa [Value.ownBlock] using hk
    exact h2
end
section
variable {w : World} {B : Nat} {v : Value} {l : List UInt8} {ops : Array Oper} {rest : List Oper} {o : Oper} {a : Act} {Q : Exit → Act → World → Prop}
end
end Go.Proofs.YtbnonnogkgbpiaaDoor.OwnZ
end
section
namespace Go.Proofs.YtbnonnogkgbpiaaDoor.OwnZ
open Go Go.RowKit Go.Proofs.YtbnonnogkgbpiaaDoorW.PrintWords Go.Proofs.YtbnonnogkgbpiaaDoorW.PrintLast Go.Proofs.YtbnonnogkgbpiaaDoorW.PrintMore Go.Proofs.YtbnonnogkgbpiaaDoor.PT Go.Proofs.YtbnonnogkgbpiaaDoor.TreePlain Go.Proofs.YtbnonnogkgbpiaaDoor.TreeText
set_option linter.unusedVariables false
set_option linter.unusedSimpArgs false
theorem look {w W : World} {st n rt : Int} {ad : Addr} {m c t : Nat} {v : Value} {T : List UInt8} {p q : Addr} {a b : Value} (h : RP w W st n rt (some ad) m c t v T) (h1 : w.cell? p = some a) (h2 : w.cell? q = some b) : W.cell? ⟨t, 2, none⟩ = some (.slice (some ad) m c) ∧ W.cell? p = some a ∧ W.cell? q = some b := ⟨(blk_cell h.bx 2).trans rfl, pw_cell_below h.be h1, pw_cell_below h.be h2⟩
end Go.Proofs.YtbnonnogkgbpiaaDoor.OwnZ
end
section
namespace Go.Proofs.YtbnonnogkgbpiaaDoor.LentT
open Go Go.RowKit Go.Proofs.YtbnonnogkgbpiaaDoorW.PrintWords Go.Proofs.YtbnonnogkgbpiaaDoorW.PrintLast Go.Proofs.YtbnonnogkgbpiaaDoorW.PrintMore Go.Proofs.YtbnonnogkgbpiaaDoor.PT Go.Proofs.YtbnonnogkgbpiaaDoor.TreePlain Go.Proofs.YtbnonnogkgbpiaaDoor.TreeText
set_option linter.unusedVariables false
set_option linter.unusedSimpArgs false
def printR (st n : Int) (l : List S49) (rt : Int) : List UInt8 × Int := if chk st n l rt = 0 then printP st n l rt else ([], chk st n l rt)
theorem print_calls (st n : Int) (A : Option Addr) (c : Nat) (l : List S49) (rt : Int) (w : World) (hp : Pow w) (hr : Kd.C k49 w A l.length l) (hc : l.length ≤ c) (hy : Bytes l) :
    Calls Tryd.prog 17 #[.agg #[.int .i64 st, .int .i64 n, .slice A l.length c, .int .i64 rt]] w fun e w' => e = .returned (.tuple #[.string ⟨(printR st n l rt).1.toArray⟩, .int .i64 (printR st n l rt).2]) ∧ Below w.heap.size w w' := by
  obtain ⟨k, hk⟩ := chk_tree st n rt l hy
  unfold printR
  by_cases h : chk st n l rt = 0
  · rw [if_pos h]
    rw [h] at hk
    exact print_ok k st n A c l rt w hp hr hc hk (chk_zero h) hy
  · rw [if_neg h]
    exact print_bad k st n A c l rt _ w hr hc hk (by simpa using h)
end Go.Proofs.YtbnonnogkgbpiaaDoor.LentT
end
section
namespace Go.Proofs.YtbnonnogkgbpiaaDoor.ParseP
open Go Go.RowKit Go.Proofs.YtbnonnogkgbpiaaDoorW.PrintWords Go.Proofs.YtbnonnogkgbpiaaDoor.PT Go.Proofs.YtbnonnogkgbpiaaDoor.TreePlain Go.Proofs.YtbnonnogkgbpiaaDoor.TreeText Go.Proofs.YtbnonnogkgbpiaaDoor.Reader Go.Proofs.YtbnonnogkgbpiaaDoor.LentT
set_option linter.unusedVariables false
set_option linter.unusedSimpArgs false
def pTree : ByteArray := ⟨#[116, 114, 101, 101]⟩
def pSp : ByteArray := ⟨#[32]⟩
def pNl : ByteArray := ⟨#[10]⟩
def pEq : ByteArray := ⟨#[61, 32]⟩
def qn (s p : ByteArray) (a : Nat) (ok : Bool) : Nat × Bool × Nat := nmP s (tkP s p a ok).1 (tkP s p a ok).2
def hdQ (s : ByteArray) : Nat → Nat × Bool
  | 0 => tkP s pTree 0 true
  | i + 1 => ((qn s pSp (hdQ s i).1 (hdQ s i).2).1, (qn s pSp (hdQ s i).1 (hdQ s i).2).2.1)
def hdF (s : ByteArray) (i : Nat) : Nat := (tkP s pSp (hdQ s i).1 (hdQ s i).2).1
def hdN (s : ByteArray) (i : Nat) : Nat := (qn s pSp (hdQ s i).1 (hdQ s i).2).2.2
def kidsR (s : ByteArray) : Nat → Nat → Bool → List Int → Nat × Bool × List Int
  | 0, a, ok, ks => (a, ok, ks)
  | d + 1, a, ok, ks => if nx s a ok 32 = true then kidsR s d (qn s pSp a ok).1 (qn s pSp a ok).2.1 (ks ++ [((qn s pSp a ok).2.2 : Int)]) else (a, ok, ks)
def kidsL (s : ByteArray) (a : Nat) (ok : Bool) : Nat × Bool × List Int := kidsR s (s.size - (nmP s a ok).1) (nmP s a ok).1 (nmP s a ok).2.1 [((nmP s a ok).2.2 : Int)]
def line (s : ByteArray) (a : Nat) (ok : Bool) : (Nat × Bool) × S49 × Bool :=
  if nx s a ok 61 = true then (tkP s pNl (qn s pEq a ok).1 (qn s pEq a ok).2.1, ⟨IntKind.u8.wrap ((qn s pEq a ok).2.2 : Int), []⟩, decide (((qn s pEq a ok).2.2 : Int) < 256))
  else (tkP s pNl (kidsL s a ok).1 (kidsL s a ok).2.1, ⟨0, (kidsL s a ok).2.2⟩, true)
def lines (s : ByteArray) : Nat → Nat → Bool → List S49 → Bool → (Nat × Bool) × List S49 × Bool
  | 0, a, ok, l, sm => ((a, ok), l, sm)
  | d + 1, a, ok, l, sm => if ok = true then lines s d (line s a ok).1.1 (line s a ok).1.2 (l ++ [(line s a ok).2.1]) (sm && (line s a ok).2.2) else ((a, ok), l, sm)
def noT : Int × Int × List S49 × Int := (0, 0, [], 0)
def parseE (s : ByteArray) (r : (Nat × Bool) × List S49 × Bool) : (Int × Int × List S49 × Int) × Int × Int :=
  if r.1.2 = false ∨ r.1.1 < s.size then (noT, (r.1.1 : Int), 110) else
  if r.2.2 = false ∨ chk (hdN s 0) (hdN s 1) r.2.1 (hdN s 3) ≠ 0 then (noT, 0, 110) else (((hdN s 0 : Int), (hdN s 1 : Int), r.2.1, (hdN s 3 : Int)), 0, 0)
def hdE (s : ByteArray) : Nat × Bool := tkP s pNl (hdQ s 4).1 (hdQ s 4).2
def parse (s : ByteArray) : (Int × Int × List S49 × Int) × Int × Int :=
  if 1048576 < s.size then (noT, 0, 3) else
  if (hdQ s 3).2 = true ∧ 65536 < hdN s 2 then (noT, (hdF s 2 : Int), 110) else
  parseE s (lines s (hdN s 2) (hdE s).1 (hdE s).2 [] true)
structure St (s : ByteArray) (a : Nat) (T R : List UInt8) : Prop where
  e : s.data.toList = T ++ R
  a : a = T.length
theorem St.size {s : ByteArray} {a : Nat} {T R : List UInt8} (h : St s a T R) : s.size = a + R.length := by
  have := congrArg List.length h.e
  rw [List.length_append, ← h.a] at this
  exact this
theorem St.mv {s : ByteArray} {a : Nat} {T P R : List UInt8} (h : St s a T (P ++ R)) : St s (a + P.length) (T ++ P) R :=
  ⟨by rw [h.e, List.append_assoc], by rw [List.length_append, h.a]⟩
theorem St.hd {s : ByteArray} {a : Nat} {T R : List UInt8} {c : UInt8} (h : St s a T (c :: R)) : bt s (a : Int) = (c.toNat : Int) := by
  have hlt : a < s.size := by rw [h.size, List.length_cons]; omega
  have x1 : ∀ h : a < s.size, ((s[a]'h).toNat : Int) = bt s (a : Int) := bt_at s (a : Int)
  rw [← x1 hlt]
  have h2 : s.data.toList[a]? = some c := by rw [h.e, h.a, List.getElem?_append_right (Nat.le_refl _), Nat.sub_self]; rfl
  have h3 : s[a]'hlt = s.data.toList[a]'hlt := rfl
  rw [h3]
  obtain ⟨_, e⟩ := List.getElem?_eq_some_iff.1 h2
  rw [e]
theorem St.one {s : ByteArray} {a : Nat} {T R : List UInt8} {c : UInt8} (h : St s a T (c :: R)) : St s (a + 1) (T ++ [c]) R := St.mv (P := [c]) h
theorem St.start (s : ByteArray) : St s 0 [] s.data.toList := ⟨rfl, rfl⟩
theorem St.full (t : List UInt8) : St ⟨t.toArray⟩ 0 [] t := ⟨by simp, rfl⟩
theorem St.cast {s : ByteArray} {a a' : Nat} {T T' R : List UInt8} (h : St s a T R) (e1 : a' = a) (e2 : T' = T) : St s a' T' R := e1 ▸ e2 ▸ h
theorem tk_le (s p : ByteArray) : ∀ d i a, a ≤ s.size → a ≤ (tk s p d i a).1 ∧ (tk s p d i a).1 ≤ s.size
  | 0, i, a, h => ⟨Nat.le_refl _, h⟩
  | d + 1, i, a, h => by
    unfold tk
    split
    · exact ⟨Nat.le_refl _, h⟩
    · rename_i c
      have := tk_le s p d (i + 1) (a + 1) (by have : ¬ a = s.size := fun e => c (.inl e); omega)
      omega
theorem tkP_le (s p : ByteArray) (a : Nat) (ok : Bool) (h : a ≤ s.size) : a ≤ (tkP s p a ok).1 ∧ (tkP s p a ok).1 ≤ s.size := by
  unfold tkP
  split
  · exact tk_le s p _ _ a h
  · exact ⟨Nat.le_refl _, h⟩
theorem nm_le (s : ByteArray) (fr : Nat) : ∀ d a n, a + d ≤ s.size → a ≤ (nm s fr d a n).1 ∧ (nm s fr d a n).1 ≤ s.size
  | 0, a, n, h => ⟨Nat.le_refl _, h⟩
  | d + 1, a, n, h => by
    unfold nm
    split
    · have := nm_le s fr d (a + 1) (10 * n + (bt s a - 48).toNat) (by omega)
      omega
    · exact ⟨Nat.le_refl _, by omega⟩
theorem nmP_le (s : ByteArray) (a : Nat) (ok : Bool) (h : a ≤ s.size) : a ≤ (nmP s a ok).1 ∧ (nmP s a ok).1 ≤ s.size := by
  unfold nmP
  split
  · exact nm_le s a _ a 0 (by omega)
  · exact ⟨Nat.le_refl _, h⟩
theorem tk_fwd (s p : ByteArray) : ∀ (P2 : List UInt8) (d i a : Nat) (P1 T R : List UInt8), St p i P1 P2 → St s a T (P2 ++ R) → d = P2.length → tk s p d i a = (a + P2.length, true)
  | [], d, i, a, P1, T, R, hp, hs, hd => by
    subst hd
    rfl
  | c :: P2, d, i, a, P1, T, R, hp, hs, hd => by
    subst hd
    show tk s p (P2.length + 1) i a = _
    have hs' : St s a T (c :: (P2 ++ R)) := hs
    have hz := hs'.size
    rw [List.length_cons] at hz
    unfold tk
    rw [if_neg (fun h => h.elim (fun h => by omega) (fun h => h (by rw [hs'.hd, hp.hd]))), tk_fwd s p P2 _ (i + 1) (a + 1) _ _ R hp.one hs'.one rfl, List.length_cons]
    exact Prod.ext (by show a + 1 + _ = _; omega) rfl
theorem tk_bwd (s p : ByteArray) : ∀ (P2 : List UInt8) (d i a a' : Nat) (P1 T R : List UInt8), St p i P1 P2 → St s a T R → d = P2.length → tk s p d i a = (a', true) → ∃ R', R = P2 ++ R' ∧ St s a' (T ++ P2) R'
  | [], d, i, a, a', P1, T, R, hp, hs, hd, h => by
    subst hd
    obtain rfl : a = a' := by simpa [tk] using h
    exact ⟨R, rfl, hs.cast rfl (by simp)⟩
  | c :: P2, d, i, a, a', P1, T, R, hp, hs, hd, h => by
    subst hd
    rw [List.length_cons] at h
    unfold tk at h
    split at h
    · cases h
    · rename_i q
      cases R with
      | nil => exact absurd (.inl (by have := hs.size; simp at this; omega)) q
      | cons c2 R =>
        have e : bt s (a : Int) = bt p (i : Int) := Classical.byContradiction (fun e => q (.inr e))
        rw [hs.hd, hp.hd] at e
        obtain rfl : c2 = c := UInt8.toNat_inj.1 (by omega)
        obtain ⟨R', hR, hs'⟩ := tk_bwd s p P2 _ (i + 1) (a + 1) a' _ _ R hp.one hs.one rfl h
        exact ⟨R', by rw [hR]; rfl, hs'.cast rfl (by simp)⟩
theorem tkP_fwd (s : ByteArray) (P T R : List UInt8) (a : Nat) (h : St s a T (P ++ R)) : tkP s ⟨P.toArray⟩ a true = (a + P.length, true) := by
  unfold tkP
  rw [if_pos rfl]
  exact tk_fwd s ⟨P.toArray⟩ P _ 0 a [] T R (St.full P) h (by simp [← ByteArray.size_data])
theorem tkP_bwd (s : ByteArray) (P T R : List UInt8) (a a' : Nat) (ok : Bool) (hs : ok = true → St s a T R) (h : tkP s ⟨P.toArray⟩ a ok = (a', true)) : ok = true ∧ ∃ R', R = P ++ R' ∧ St s a' (T ++ P) R' := by
  unfold tkP at h
  split at h
  · rename_i c
    exact ⟨c, tk_bwd s ⟨P.toArray⟩ P _ 0 a a' [] T R (St.full P) (hs c) (by simp [← ByteArray.size_data]) h⟩
  · cases h
theorem dd_small {n : Nat} (h : n < 10) : Lib.decDigits n = [UInt8.ofNat (48 + n)] := by rw [Lib.decDigits, dif_pos h]
theorem dd_big {n : Nat} (h : ¬ n < 10) : Lib.decDigits n = Lib.decDigits (n / 10) ++ [UInt8.ofNat (48 + n % 10)] := by rw [Lib.decDigits, dif_neg h]
theorem of_nat_toNat (k : Nat) (h : k < 256) : (UInt8.ofNat k).toNat = k := by
  rw [UInt8.toNat_ofNat']
  exact Nat.mod_eq_of_lt h
theorem dd_pos (n : Nat) : Lib.decDigits n ≠ [] := by
  intro h
  have := Lib.nDigits_pos n
  rw [← Lib.decDigits_length, h] at this
  exact absurd this (by decide)
theorem nm_dig (s : ByteArray) : ∀ (n : Nat) (d : Nat) (T R : List UInt8), St s T.length T (Lib.decDigits n ++ R) → n < 1000000000 → nm s T.length (d + (Lib.decDigits n).length) T.length 0 = nm s T.length d (T.length + (Lib.decDigits n).length) n := by
  intro n
  induction n using Nat.strongRecOn with
  | _ n ih =>
    intro d T R hs hn
    by_cases h : n < 10
    · rw [dd_small h] at hs ⊢
      have hb := St.hd (c := UInt8.ofNat (48 + n)) hs
      rw [of_nat_toNat _ (by omega)] at hb
      show nm s T.length (d + 1) T.length 0 = _
      rw [nm, if_pos ⟨by omega, by omega, by omega, .inr rfl⟩]
      rw [show 10 * 0 + (bt s (T.length : Int) - 48).toNat = n by omega]
      rfl
    · rw [dd_big h] at hs ⊢
      have h8 : (Lib.decDigits (n / 10)).length ≤ 8 := by
        rw [Lib.decDigits_length]
        exact nDigits_le 7 _ (by omega)
      rw [List.append_assoc] at hs
      have hi := ih (n / 10) (by omega) (d + 1) T _ hs (by omega)
      have hs2 := hs.mv
      have hb := St.hd (c := UInt8.ofNat (48 + n % 10)) hs2
      rw [of_nat_toNat _ (by omega)] at hb
      rw [List.length_append, List.length_singleton, show d + ((Lib.decDigits (n / 10)).length + 1) = d + 1 + (Lib.decDigits (n / 10)).length by omega, hi, nm, if_pos ⟨by omega, by omega, by omega, .inl (by omega)⟩]
      rw [show 10 * (n / 10) + (bt s ((T.length + (Lib.decDigits (n / 10)).length : Nat) : Int) - 48).toNat = n by omega]
      rfl
def ND (R : List UInt8) : Prop := ∀ c R', R = c :: R' → c.toNat < 48 ∨ 57 < c.toNat
theorem nd_cons {c : UInt8} {R : List UInt8} (h : c.toNat < 48 ∨ 57 < c.toNat) : ND (c :: R) := by
  intro c' R' e
  injection e with e _
  exact e ▸ h
theorem nm_stop (s : ByteArray) (fr d b n : Nat) (T R : List UInt8) (hs : St s b T R) (hR : ND R) (hd : d = R.length) : nm s fr d b n = (b, n) := by
  cases R with
  | nil => subst hd; rfl
  | cons c R =>
    subst hd
    show nm s fr (R.length + 1) b n = _
    rw [nm, if_neg (fun h => by have := hR c R rfl; have := hs.hd; omega)]
theorem itoa_nat (n : Nat) : Lib.itoa (n : Int) = Lib.decDigits n := by
  unfold Lib.itoa
  rw [if_neg (by omega), Int.toNat_natCast]
theorem nmP_fwd (s : ByteArray) (n : Nat) (T R : List UInt8) (a : Nat) (h : St s a T (Lib.decDigits n ++ R)) (hn : n < 1000000000) (hR : ND R) : nmP s a true = (a + (Lib.decDigits n).length, true, n) := by
  have ha := h.a
  subst ha
  have hz := h.size
  rw [List.length_append] at hz
  have e := nm_dig s n R.length T R h hn
  have e2 := nm_stop s T.length R.length (T.length + (Lib.decDigits n).length) n _ R h.mv hR rfl
  have e3 : nm s T.length (s.size - T.length) T.length 0 = (T.length + (Lib.decDigits n).length, n) := by
    rw [show s.size - T.length = R.length + (Lib.decDigits n).length by omega, e, e2]
  unfold nmP
  rw [if_pos rfl, e3]
  have h1 : (Lib.decDigits n).length ≠ 0 := fun h => dd_pos n (List.eq_nil_of_length_eq_zero h)
  rw [decide_eq_true (show T.length + (Lib.decDigits n).length ≠ T.length by omega)]
theorem nm_bwd (s : ByteArray) (T : List UInt8) : ∀ (d b n : Nat) (D R : List UInt8), St s b (T ++ D) R → D.length ≤ 9 → ((D = [] ∧ n = 0) ∨ D = Lib.decDigits n) →
    ∃ D' R', St s (nm s T.length d b n).1 (T ++ D') R' ∧ D'.length ≤ 9 ∧ ((D' = [] ∧ (nm s T.length d b n).2 = 0) ∨ D' = Lib.decDigits (nm s T.length d b n).2)
  | 0, b, n, D, R, hs, h9, hD => ⟨D, R, hs, h9, hD⟩
  | d + 1, b, n, D, R, hs, h9, hD => by
    unfold nm
    split
    · rename_i c
      obtain ⟨c1, c2, c3, c4⟩ := c
      have ha := hs.a
      rw [List.length_append] at ha
      cases R with
      | nil =>
        have hz := hs.size
        have : bt s (b : Int) = 0 := by
          unfold bt
          rw [dif_neg (by rw [Int.toNat_natCast]; simp at hz; omega)]
        omega
      | cons c R =>
        have hb := hs.hd
        refine nm_bwd s T d (b + 1) _ (D ++ [c]) R (hs.one.cast rfl (by simp)) (by rw [List.length_append, List.length_singleton]; omega) (.inr ?_)
        have hc : UInt8.ofNat (48 + (bt s (b : Int) - 48).toNat) = c := by
          apply UInt8.toNat_inj.1
          rw [of_nat_toNat _ (by omega)]
          omega
        rcases hD with ⟨rfl, rfl⟩ | rfl
        · rw [dd_small (by omega), show 48 + (10 * 0 + (bt s (b : Int) - 48).toNat) = 48 + (bt s (b : Int) - 48).toNat by omega, hc]
          rfl
        · have h1 : (Lib.decDigits n).length ≠ 0 := fun h => dd_pos n (List.eq_nil_of_length_eq_zero h)
          have hn : 0 < n := c4.elim id (fun h => by omega)
          rw [dd_big (n := 10 * n + (bt s (b : Int) - 48).toNat) (by omega), show (10 * n + (bt s (b : Int) - 48).toNat) / 10 = n by omega, show (10 * n + (bt s (b : Int) - 48).toNat) % 10 = (bt s (b : Int) - 48).toNat by omega, hc]
    · exact ⟨D, R, hs, h9, hD⟩
theorem nmP_bwd (s : ByteArray) (T R : List UInt8) (a a' n : Nat) (ok : Bool) (hs : ok = true → St s a T R) (h : nmP s a ok = (a', true, n)) : ok = true ∧ n < 1000000000 ∧ ∃ R', R = Lib.decDigits n ++ R' ∧ St s a' (T ++ Lib.decDigits n) R' := by
  unfold nmP at h
  split at h
  · rename_i c
    have hs := hs c
    have ha := hs.a
    obtain ⟨D', R', h1, h2, h3⟩ := nm_bwd s T (s.size - a) a 0 [] R (hs.cast rfl (by simp)) (by decide) (.inl ⟨rfl, rfl⟩)
    rw [← ha] at h1 h3
    injection h with e1 h
    injection h with e2 e3
    have e2 := of_decide_eq_true e2
    rw [e1] at h1 e2
    rw [e3] at h3
    have ha' := h1.a
    rw [List.length_append] at ha'
    have h4 : D' = Lib.decDigits n := h3.elim (fun h => absurd (by rw [h.1] at ha'; simp at ha'; omega) e2) id
    subst h4
    refine ⟨c, ?_, R', ?_, h1⟩
    · have := Lib.lt_pow_nDigits n
      rw [Lib.decDigits_length] at h2
      exact Nat.lt_of_lt_of_le this (Nat.pow_le_pow_right (n := 10) (by decide) h2)
    · have := h1.e
      rw [hs.e, List.append_assoc] at this
      exact List.append_cancel_left this
  · cases h
theorem nmP_off (s : ByteArray) (a : Nat) : nmP s a false = (a, false, 0) := rfl
theorem nmP_zero (s : ByteArray) (a : Nat) (ok : Bool) (h : (nmP s a ok).2.1 = false) : (nmP s a ok).2.2 = 0 := by
  unfold nmP at h ⊢
  split
  · rename_i c
    rw [if_pos c] at h
    have e := of_decide_eq_false h
    have e : (nm s a (s.size - a) a 0).1 = a := Classical.byContradiction e
    show (nm s a (s.size - a) a 0).2 = 0
    generalize hd : s.size - a = d at e ⊢
    cases d with
    | zero => rfl
    | succ d =>
      unfold nm at e ⊢
      split
      · rename_i q
        rw [if_pos q] at e
        have := (nm_le s a d (a + 1) (10 * 0 + (bt s a - 48).toNat) (by omega)).1
        omega
      · rfl
  · rfl
end Go.Proofs.YtbnonnogkgbpiaaDoor.ParseP
end
