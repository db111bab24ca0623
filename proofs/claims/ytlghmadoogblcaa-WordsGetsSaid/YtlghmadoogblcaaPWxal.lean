-- Printed out of the translation by the kit print (pr.sh). Not trusted: checked by Lean.
import Derived.Test.YtlghmadoogblcaaPWx0
import Derived.Test.YtlghmadoogblcaaPWx1
import Derived.Test.YtlghmadoogblcaaPWxc
import Derived.Test.YtlghmadoogblcaaPWx4
import Derived.Test.YtlghmadoogblcaaPWxh
namespace Go.Proofs.Ytlghmadoogblcaa.PW
open Go.RowKit Go.Proofs.YtlghmadoogblcaaW.PrintWords Go.Proofs.YtlghmadoogblcaaW.PrintLast Go.Proofs.YtlghmadoogblcaaW.PrintMore
attribute [local go_sem] max2_int min2_int max_two min_two max_three min_three max_four min_four   -- for this text's walks alone
set_option linter.unusedVariables false
set_option linter.unusedSimpArgs false

/-! ### vivariumlaw02_alive: function 13 -/
def vivariumlaw02_alive.f (k : Nat)  : Option (Bool) := (words_Of.f k (([true, false, true] : List Bool))).bind fun bt204 => ((words_Up.f k bt204.1 bt204.2.1 true).bind fun bt210 => ((words_Ones.f k bt210.1 bt210.2.1).bind fun bt217 => ((words_Half.f 12 10).bind fun bt219 => (if bt204.2.2 = 0 then (if bt210.2.2.2 = 0 then (if bt217.2 = 0 then (if bt204.1 = 3 then (if (bt204.2.1.length : Int) = 1 then (if 0 < (bt204.2.1.length : Int) then (if (rd bt204.2.1 0) = 5 then (if bt210.2.2.1 = true then (if bt217.1 = 2 then ((words_Get.f bt210.1 bt210.2.1 1).bind fun t222 => (if t222 = true then ((words_Get.f bt210.1 bt210.2.1 2).bind fun t223 => (if t223 = true then (some false) else (if bt219.1 = 6 then (some (bt219.2 == 8)) else (some false)))) else (some false))) else (some false)) else (some false)) else (some false)) else (none)) else (some false)) else (some false)) else (some false)) else (some false)) else (some false)))))
theorem vivariumlaw02_alive.mono : ∀ k, LeO (vivariumlaw02_alive.f k ) (vivariumlaw02_alive.f (k + 1) ) := by
  intro  k
  unfold vivariumlaw02_alive.f
  repeat' first
      | (with_reducible exact words_Of.mono _ _)
      | (with_reducible exact words_Ones.mono _ _ _)
      | (with_reducible exact words_Up.mono _ _ _ _)
      | (with_reducible exact LeO.refl _)
      | (with_reducible exact LeO.none _)
      | (with_reducible refine LeO.ite ?_ ?_)
      | (with_reducible refine LeO.bind ?_ (fun _ => ?_))
      | exact words_Of.mono _ _
      | exact words_Ones.mono _ _ _
      | exact words_Up.mono _ _ _ _
      | exact LeO.none _
      | refine LeO.ite ?_ ?_
      | refine LeO.bind ?_ (fun _ => ?_)
set_option maxHeartbeats 8000000 in
set_option maxRecDepth 100000 in
theorem vivariumlaw02_alive.calls (k : Nat)  (r : Bool) (w : World) (hrt_ : r = true) (h : vivariumlaw02_alive.f k  = some r) :
    Calls Try.prog 13 #[] w fun e w' => e = .returned (.bool r) ∧ Below w.heap.size w w' := by
  have hu31 := Try.underlying31
  have HB := Aside0.mk (Below.refl w.heap.size w)
  have H : ((words_Of.f k (([true, false, true] : List Bool))).bind fun bt204 => ((words_Up.f k bt204.1 bt204.2.1 true).bind fun bt210 => ((words_Ones.f k bt210.1 bt210.2.1).bind fun bt217 => ((words_Half.f 12 10).bind fun bt219 => (if bt204.2.2 = 0 then (if bt210.2.2.2 = 0 then (if bt217.2 = 0 then (if bt204.1 = 3 then (if (bt204.2.1.length : Int) = 1 then (if 0 < (bt204.2.1.length : Int) then (if (rd bt204.2.1 0) = 5 then (if bt210.2.2.1 = true then (if bt217.1 = 2 then ((words_Get.f bt210.1 bt210.2.1 1).bind fun t222 => (if t222 = true then ((words_Get.f bt210.1 bt210.2.1 2).bind fun t223 => (if t223 = true then (some false) else (if bt219.1 = 6 then (some (bt219.2 == 8)) else (some false)))) else (some false))) else (some false)) else (some false)) else (some false)) else (none)) else (some false)) else (some false)) else (some false)) else (some false)) else (some false)))))) = some r := h
  clear h
  obtain ⟨y201, hy201⟩ : ∃ y_ : List Bool, y_ = (([true, false, true] : List Bool)) := ⟨_, rfl⟩
  replace H : ((words_Of.f k y201).bind fun bt204 => ((words_Up.f k bt204.1 bt204.2.1 true).bind fun bt210 => ((words_Ones.f k bt210.1 bt210.2.1).bind fun bt217 => ((words_Half.f 12 10).bind fun bt219 => (if bt204.2.2 = 0 then (if bt210.2.2.2 = 0 then (if bt217.2 = 0 then (if bt204.1 = 3 then (if (bt204.2.1.length : Int) = 1 then (if 0 < (bt204.2.1.length : Int) then (if (rd bt204.2.1 0) = 5 then (if bt210.2.2.1 = true then (if bt217.1 = 2 then ((words_Get.f bt210.1 bt210.2.1 1).bind fun t222 => (if t222 = true then ((words_Get.f bt210.1 bt210.2.1 2).bind fun t223 => (if t223 = true then (some false) else (if bt219.1 = 6 then (some (bt219.2 == 8)) else (some false)))) else (some false))) else (some false)) else (some false)) else (some false)) else (none)) else (some false)) else (some false)) else (some false)) else (some false)) else (some false)))))) = some r := by first | (rw [hy201]; with_reducible exact H) | (have H2_ := (Option.bind_some _ _).symm.trans H; rw [hy201]; with_reducible exact H2_) | (have H2_ := (Option.bind_some _ _).symm.trans H; with_reducible exact H2_) | with_reducible exact H | (rw [hy201]; exact H) | exact H
  have Ny201 := Aside0.mk hy201
  clear hy201
  replace H := Option.bind_eq_some_iff.mp H
  obtain ⟨⟨t204, t205, t208⟩, A10, H⟩ := H
  replace H : ((words_Up.f k t204 t205 true).bind fun bt210 => ((words_Ones.f k bt210.1 bt210.2.1).bind fun bt217 => ((words_Half.f 12 10).bind fun bt219 => (if t208 = 0 then (if bt210.2.2.2 = 0 then (if bt217.2 = 0 then (if t204 = 3 then (if (t205.length : Int) = 1 then (if 0 < (t205.length : Int) then (if (rd t205 0) = 5 then (if bt210.2.2.1 = true then (if bt217.1 = 2 then ((words_Get.f bt210.1 bt210.2.1 1).bind fun t222 => (if t222 = true then ((words_Get.f bt210.1 bt210.2.1 2).bind fun t223 => (if t223 = true then (some false) else (if bt219.1 = 6 then (some (bt219.2 == 8)) else (some false)))) else (some false))) else (some false)) else (some false)) else (some false)) else (none)) else (some false)) else (some false)) else (some false)) else (some false)) else (some false))))) = some r := H
  have A1 := Aside0.mk A10
  clear A10
  replace H := Option.bind_eq_some_iff.mp H
  obtain ⟨⟨t210, t211, t214, t215⟩, A20, H⟩ := H
  replace H : ((words_Ones.f k t210 t211).bind fun bt217 => ((words_Half.f 12 10).bind fun bt219 => (if t208 = 0 then (if t215 = 0 then (if bt217.2 = 0 then (if t204 = 3 then (if (t205.length : Int) = 1 then (if 0 < (t205.length : Int) then (if (rd t205 0) = 5 then (if t214 = true then (if bt217.1 = 2 then ((words_Get.f t210 t211 1).bind fun t222 => (if t222 = true then ((words_Get.f t210 t211 2).bind fun t223 => (if t223 = true then (some false) else (if bt219.1 = 6 then (some (bt219.2 == 8)) else (some false)))) else (some false))) else (some false)) else (some false)) else (some false)) else (none)) else (some false)) else (some false)) else (some false)) else (some false)) else (some false)))) = some r := H
  have A2 := Aside0.mk A20
  clear A20
  replace H := Option.bind_eq_some_iff.mp H
  obtain ⟨⟨t217, t218⟩, A30, H⟩ := H
  replace H : ((words_Half.f 12 10).bind fun bt219 => (if t208 = 0 then (if t215 = 0 then (if t218 = 0 then (if t204 = 3 then (if (t205.length : Int) = 1 then (if 0 < (t205.length : Int) then (if (rd t205 0) = 5 then (if t214 = true then (if t217 = 2 then ((words_Get.f t210 t211 1).bind fun t222 => (if t222 = true then ((words_Get.f t210 t211 2).bind fun t223 => (if t223 = true then (some false) else (if bt219.1 = 6 then (some (bt219.2 == 8)) else (some false)))) else (some false))) else (some false)) else (some false)) else (some false)) else (none)) else (some false)) else (some false)) else (some false)) else (some false)) else (some false))) = some r := H
  have A3 := Aside0.mk A30
  clear A30
  replace H := Option.bind_eq_some_iff.mp H
  obtain ⟨⟨t219, t220⟩, A40, H⟩ := H
  replace H : (if t208 = 0 then (if t215 = 0 then (if t218 = 0 then (if t204 = 3 then (if (t205.length : Int) = 1 then (if 0 < (t205.length : Int) then (if (rd t205 0) = 5 then (if t214 = true then (if t217 = 2 then ((words_Get.f t210 t211 1).bind fun t222 => (if t222 = true then ((words_Get.f t210 t211 2).bind fun t223 => (if t223 = true then (some false) else (if t219 = 6 then (some (t220 == 8)) else (some false)))) else (some false))) else (some false)) else (some false)) else (some false)) else (none)) else (some false)) else (some false)) else (some false)) else (some false)) else (some false)) = some r := H
  have A4 := Aside0.mk A40
  clear A40
  by_cases c5 : t208 = 0
  · rw [if_pos c5] at H
    have c5b0 : (t208 == 0) = true := beq_iff_eq.mpr c5
    have c5b1 : (t208 != 0) = false := bne_eq_false_iff_eq.mpr c5
    clear c5
    by_cases c6 : t215 = 0
    · rw [if_pos c6] at H
      have c6b0 : (t215 == 0) = true := beq_iff_eq.mpr c6
      have c6b1 : (t215 != 0) = false := bne_eq_false_iff_eq.mpr c6
      clear c6
      by_cases c7 : t218 = 0
      · rw [if_pos c7] at H
        have c7b0 : (t218 == 0) = true := beq_iff_eq.mpr c7
        have c7b1 : (t218 != 0) = false := bne_eq_false_iff_eq.mpr c7
        clear c7
        by_cases c8 : t204 = 3
        · rw [if_pos c8] at H
          have c8b0 : (t204 == 3) = true := beq_iff_eq.mpr c8
          have c8b1 : (t204 != 3) = false := bne_eq_false_iff_eq.mpr c8
          clear c8
          by_cases c9 : (t205.length : Int) = 1
          · rw [if_pos c9] at H
            have c9b0 : ((t205.length : Int) == 1) = true := beq_iff_eq.mpr c9
            have c9b1 : ((t205.length : Int) != 1) = false := bne_eq_false_iff_eq.mpr c9
            clear c9
            by_cases c10 : 0 < (t205.length : Int)
            · rw [if_pos c10] at H
              have c10b0 : decide (0 < (t205.length : Int)) = true := decide_eq_true c10
              have c10b1 : decide (0 < t205.length) = true := decide_eq_true (by omega)
              clear c10
              by_cases c11 : (rd t205 0) = 5
              · rw [if_pos c11] at H
                have c11b0 : ((rd t205 0) == 5) = true := beq_iff_eq.mpr c11
                have c11b1 : ((rd t205 0) != 5) = false := bne_eq_false_iff_eq.mpr c11
                clear c11
                by_cases c12 : t214 = true
                · subst c12
                  have H1 : (if t217 = 2 then ((words_Get.f t210 t211 1).bind fun t222 => (if t222 = true then ((words_Get.f t210 t211 2).bind fun t223 => (if t223 = true then (some false) else (if t219 = 6 then (some (t220 == 8)) else (some false)))) else (some false))) else (some false)) = some r := by rw [if_pos rfl] at H; exact H
                  clear H
                  have H := H1
                  clear H1
                  by_cases c13 : t217 = 2
                  · rw [if_pos c13] at H
                    have c13b0 : (t217 == 2) = true := beq_iff_eq.mpr c13
                    have c13b1 : (t217 != 2) = false := bne_eq_false_iff_eq.mpr c13
                    clear c13
                    replace H := Option.bind_eq_some_iff.mp H
                    obtain ⟨t222, A140, H⟩ := H
                    replace H : (if t222 = true then ((words_Get.f t210 t211 2).bind fun t223 => (if t223 = true then (some false) else (if t219 = 6 then (some (t220 == 8)) else (some false)))) else (some false)) = some r := H
                    have A14 := Aside0.mk A140
                    clear A140
                    by_cases c15 : t222 = true
                    · subst c15
                      have H1 : ((words_Get.f t210 t211 2).bind fun t223 => (if t223 = true then (some false) else (if t219 = 6 then (some (t220 == 8)) else (some false)))) = some r := by rw [if_pos rfl] at H; exact H
                      clear H
                      have H := H1
                      clear H1
                      replace H := Option.bind_eq_some_iff.mp H
                      obtain ⟨t223, A160, H⟩ := H
                      replace H : (if t223 = true then (some false) else (if t219 = 6 then (some (t220 == 8)) else (some false))) = some r := H
                      have A16 := Aside0.mk A160
                      clear A160
                      by_cases c17 : t223 = true
                      · subst c17
                        have H1 : (some false) = some r := by rw [if_pos rfl] at H; exact H
                        exact absurd (Option.some.inj H1) (by rw [hrt_]; decide)
                      · replace c17 := Bool.eq_false_iff.mpr c17
                        subst c17
                        have H1 : (if t219 = 6 then (some (t220 == 8)) else (some false)) = some r := by rw [if_neg (show ¬ (false = true) by decide)] at H; exact H
                        clear H
                        have H := H1
                        clear H1
                        by_cases c36 : t219 = 6
                        · rw [if_pos c36] at H
                          have c36b0 : (t219 == 6) = true := beq_iff_eq.mpr c36
                          have c36b1 : (t219 != 6) = false := bne_eq_false_iff_eq.mpr c36
                          clear c36
                          obtain rfl := Option.some.inj H
                          go_enter Try.func13, Try.ntmps13
                          go_wp2_with (first | ((with_reducible refine gate_dst (N := 11) rfl ?_); (try (refine gate_guard (by rfl) ?_; dsimp only)); refine Kd.R_lit Kd.bool _ 4 ?hg (N := 11) ?hd (xs := ([true, false, true] : List Bool)) (inner := [.bool true, .bool false, .bool true]) (ok := fun _ => True) (okp := fun _ => True) ?hr ?hp (fun _ hk => hk) trivial (Below.refl _ _) (Nat.le_refl _) (by simp) ?_; (case hd => rfl); (case hg => rfl); (case hr => first | (go_simp; done) | (go_simp; rfl)); (case hp => exact (Reps.one (show Kd.M Kd.bool _ _ _ true [.bool true] from rfl) (Reps.one (show Kd.M Kd.bool _ _ _ false [.bool false] from rfl) (Reps.one (show Kd.M Kd.bool _ _ _ true [.bool true] from rfl) (Reps.none _ _))))); intro v202 w37 ho38 hb hg_ hnew_; clear hg_ hnew_; (first | rw [← Ny201.out] at ho38 | (simp only [Int.reduceToNat] at ho38; rw [← Ny201.out] at ho38)); have n0_ := Aside0.mk (Kd.R_lower ho38 (below_size (by repeat (first | (with_reducible first | exact HB.out | apply below_alloc | apply pw_below_drewN | apply below_drew1) | exact HB.out)))); have n1_ := Aside0.mk (below_step (by repeat (first | (with_reducible first | exact HB.out | apply below_alloc | apply pw_below_drewN | apply below_drew1) | exact HB.out)) hb); clear HB; have HO203 := n0_; have HB := n1_; clear n0_ n1_; clear hb ho38; obtain ⟨Ao39, co39, eo39⟩ := Kd.R_slice HO203.out; subst eo39) | ((with_reducible refine gate_callee (f := 18) rfl ?_); refine goesL_ (some 12) rfl rfl Try.func18 (by kernel_rfl) rfl #[.slice Ao39 y201.length co39] rfl (by (try simp only [List.map_toArray, List.map_cons, List.map_nil]); first | done | rfl | (simp only [List.length_drop, List.length_take]; rfl)) ?_; (with_reducible refine (words_Of.calls k _ _ y201 t204 t205 t208 _ ?side1 ?side2 A1.out).mono ?_); (case side1 => repeat (first | exact (Kd.R_reads' HO203.out).2.2 | (with_reducible refine Kd.C_alloc ?_ _) | (with_reducible refine Kd.C_drewN ?_ _) | (with_reducible refine Kd.C_drew ?_))); (case side2 => exact (Kd.R_reads' HO203.out).2.1); rintro e w40 ⟨v206, rfl, ho0, hb⟩; refine ⟨_, rfl, ?_⟩; have n0_ := Aside0.mk (Kd.R_below (by (with_reducible repeat (first | apply Kd.R_alloc | apply Kd.R_drewN | apply Kd.R_drew)); exact HO203.out) hb); have n1_ := Aside0.mk (Kd.R_lower ho0 (below_size (by repeat (first | (with_reducible first | exact HB.out | apply below_alloc | apply pw_below_drewN | apply below_drew1) | exact HB.out)))); have n2_ := Aside0.mk (below_step (by repeat (first | (with_reducible first | exact HB.out | apply below_alloc | apply pw_below_drewN | apply below_drew1) | exact HB.out)) hb); clear HO203; clear HB; have HO203 := n0_; have HO207 := n1_; have HB := n2_; clear n0_ n1_ n2_; (try clear hb); (try clear hb2); (try clear hk); (try clear hi); (try clear ho0)) | ((with_reducible refine gate_dst (N := 1) rfl ?_); (try (refine gate_guard (by rfl) ?_; dsimp only)); refine box_event ?hg (N := 1) ?hd (cs := #[.int .i64 0, .slice none 0 0]) (t := 31) ?hr ?_; (case hd => rfl); (case hg => rfl); (case hr => first | (go_simp; done) | (go_simp; rfl)); intro gb209 hg w41 hbox hb; have n0_ := Aside0.mk (Kd.R_below (by (with_reducible repeat (first | apply Kd.R_alloc | apply Kd.R_drewN | apply Kd.R_drew)); exact HO203.out) hb); have n1_ := Aside0.mk (Kd.R_below (by (with_reducible repeat (first | apply Kd.R_alloc | apply Kd.R_drewN | apply Kd.R_drew)); exact HO207.out) hb); have n2_ := Aside0.mk (below_step (by repeat (first | (with_reducible first | exact HB.out | apply below_alloc | apply pw_below_drewN | apply below_drew1) | exact HB.out)) hb); have n3_ := Aside0.mk (hbox); have n4_ := Aside0.mk ((by rw [hg]; exact (below_size (by repeat (first | (with_reducible first | exact HB.out | apply below_alloc | apply pw_below_drewN | apply below_drew1) | exact HB.out))) : w.heap.size ≤ gb209)); have n5_ := Aside0.mk ((by rw [hg]; exact (below_size (by repeat (first | (with_reducible first | exact HB.out | apply below_alloc | apply pw_below_drewN | apply below_drew1) | exact HB.out))) : w.heap.size ≤ gb209)); clear HO203; clear HO207; clear HB; have HO203 := n0_; have HO207 := n1_; have HB := n2_; have BK209 := n3_; have GW209 := n4_; have GE209 := n5_; clear n0_ n1_ n2_ n3_ n4_ n5_; clear hb hbox hg; have hcz42_0 : w41.cell? ⟨gb209, 0, none⟩ = some (.int .i64 0) := (blk_cell BK209.out 0).trans rfl; have hcz42_1 : w41.cell? ⟨gb209, 1, none⟩ = some (.slice none 0 0) := (blk_cell BK209.out 1).trans rfl; have hfz42_0 := blk_frozen BK209.out 0; have hfz42_1 := blk_frozen BK209.out 1; obtain ⟨Ao43, co43, eo43⟩ := Kd.R_slice HO207.out; subst eo43) | ((with_reducible refine gate_callee (f := 45) rfl ?_); refine goesL_ (some 17) rfl rfl Try.func45 (by kernel_rfl) rfl #[.agg #[.int .i64 t204, .slice Ao43 t205.length co43], .bool true] rfl (by (try simp only [List.map_toArray, List.map_cons, List.map_nil]); first | done | rfl | (simp only [List.length_drop, List.length_take]; rfl)) ?_; (with_reducible refine (words_Up.calls k t204 _ _ t205 true t210 t211 true t215 _ ?side1 ?side2 A2.out).mono ?_); (case side1 => refine (Kd.R_reads' (e := 22) (base := w.heap.size) (ok := fun k_ => True) (n := t205.length) (c := co43) ?_).2.2; exact (by (with_reducible repeat (first | apply Kd.R_alloc | apply Kd.R_drewN | apply Kd.R_drew)); exact (Kd.R_mono (Kd.R_far (p := ⟨gb209, 1, none⟩) (Kd.R_far (p := ⟨gb209, 0, none⟩) (Kd.R_types HO207.out BK209.out (by decide)) (fun _ hk => hk.2) (.int .i64 t204)) (fun _ hk => hk.2) (.slice Ao43 t205.length co43)) (fun _ h_ => h_.1)))); (case side2 => exact (Kd.R_reads' HO207.out).2.1); rintro e w44 ⟨v212, rfl, ho0, hb⟩; refine ⟨_, rfl, ?_⟩; have n0_ := Aside0.mk (Kd.R_below (by (with_reducible repeat (first | apply Kd.R_alloc | apply Kd.R_drewN | apply Kd.R_drew)); exact (Kd.R_mono (Kd.R_far (p := ⟨gb209, 1, none⟩) (Kd.R_far (p := ⟨gb209, 0, none⟩) (Kd.R_types HO203.out BK209.out (by decide)) (fun _ hk => hk.2) (.int .i64 t204)) (fun _ hk => hk.2) (.slice Ao43 t205.length co43)) (fun _ h_ => h_.1))) hb); have n1_ := Aside0.mk (Kd.R_elder' (by (with_reducible repeat (first | apply Kd.R_alloc | apply Kd.R_drewN | apply Kd.R_drew)); exact (Kd.R_mono (Kd.R_far (p := ⟨gb209, 1, none⟩) (Kd.R_far (p := ⟨gb209, 0, none⟩) (Kd.R_types HO207.out BK209.out (by decide)) (fun _ hk => hk.2) (.int .i64 t204)) (fun _ hk => hk.2) (.slice Ao43 t205.length co43)) (fun _ h_ => h_.1))) (Kd.R_base ho0) hb); have n2_ := Aside0.mk (Kd.R_lower (Kd.R_new' ho0 (Kd.R_lt (by (with_reducible repeat (first | apply Kd.R_alloc | apply Kd.R_drewN | apply Kd.R_drew)); exact (Kd.R_mono (Kd.R_far (p := ⟨gb209, 1, none⟩) (Kd.R_far (p := ⟨gb209, 0, none⟩) (Kd.R_types HO207.out BK209.out (by decide)) (fun _ hk => hk.2) (.int .i64 t204)) (fun _ hk => hk.2) (.slice Ao43 t205.length co43)) (fun _ h_ => h_.1))))) (below_size (by repeat (first | (with_reducible first | exact HB.out | apply below_alloc | apply pw_below_drewN | apply below_drew1 | refine below_set ?_ GE209.out) | exact HB.out)))); have n3_ := Aside0.mk (blk_below (g := gb209) (o := .cells #[.int .i64 t204, .slice Ao43 t205.length co43] 31 (0, 0)) (by (with_reducible repeat (first | refine blk_drewN ?_ _ | refine blk_drew ?_ | refine blk_alloc ?_ _)); refine blk_put (cs := #[.int .i64 t204, .slice none 0 0]) ?_ 1 _ rfl; (with_reducible repeat (first | refine blk_drewN ?_ _ | refine blk_drew ?_ | refine blk_alloc ?_ _)); refine blk_put (cs := #[.int .i64 0, .slice none 0 0]) ?_ 0 _ rfl; (with_reducible repeat (first | refine blk_drewN ?_ _ | refine blk_drew ?_ | refine blk_alloc ?_ _)); exact BK209.out) hb); have n4_ := Aside0.mk (below_step (by repeat (first | (with_reducible first | exact HB.out | apply below_alloc | apply pw_below_drewN | apply below_drew1 | refine below_set ?_ GE209.out) | exact HB.out)) hb); clear HO203; clear HO207; clear BK209; clear HB; have HO203 := n0_; have HO207 := n1_; have HO213 := n2_; have BK209 := n3_; have HB := n4_; clear n0_ n1_ n2_ n3_ n4_; (try clear hb); (try clear hb2); (try clear hk); (try clear hi); (try clear ho0)) | ((with_reducible refine gate_dst (N := 3) rfl ?_); (try (refine gate_guard (by rfl) ?_; dsimp only)); refine box_event ?hg (N := 3) ?hd (cs := #[.int .i64 0, .slice none 0 0]) (t := 31) ?hr ?_; (case hd => rfl); (case hg => rfl); (case hr => first | (go_simp; done) | (go_simp; rfl)); intro gb216 hg w45 hbox hb; have n0_ := Aside0.mk (Kd.R_below (by (with_reducible repeat (first | apply Kd.R_alloc | apply Kd.R_drewN | apply Kd.R_drew)); exact HO203.out) hb); have n1_ := Aside0.mk (Kd.R_below (by (with_reducible repeat (first | apply Kd.R_alloc | apply Kd.R_drewN | apply Kd.R_drew)); exact HO207.out) hb); have n2_ := Aside0.mk (Kd.R_below (by (with_reducible repeat (first | apply Kd.R_alloc | apply Kd.R_drewN | apply Kd.R_drew)); exact HO213.out) hb); have n3_ := Aside0.mk (blk_below (g := gb209) (o := .cells #[.int .i64 t204, .slice Ao43 t205.length co43] 31 (0, 0)) (by (with_reducible repeat (first | refine blk_drewN ?_ _ | refine blk_drew ?_ | refine blk_alloc ?_ _)); exact BK209.out) hb); have n4_ := Aside0.mk (below_step (by repeat (first | (with_reducible first | exact HB.out | apply below_alloc | apply pw_below_drewN | apply below_drew1 | refine below_set ?_ GE209.out) | exact HB.out)) hb); have n5_ := Aside0.mk (hbox); have n6_ := Aside0.mk ((by rw [hg]; exact (below_size (by repeat (first | (with_reducible first | exact HB.out | apply below_alloc | apply pw_below_drewN | apply below_drew1 | refine below_set ?_ GE209.out) | exact HB.out))) : w.heap.size ≤ gb216)); have n7_ := Aside0.mk ((by rw [hg]; exact (below_size (by repeat (first | (with_reducible first | exact HB.out | apply below_alloc | apply pw_below_drewN | apply below_drew1 | refine below_set ?_ GE209.out) | exact HB.out))) : w.heap.size ≤ gb216)); have n8_ := Aside0.mk ((by rw [hg]; exact Nat.ne_of_lt (blk_lt (g := gb209) (o := .cells #[.int .i64 t204, .slice Ao43 t205.length co43] 31 (0, 0)) (by (with_reducible repeat (first | refine blk_drewN ?_ _ | refine blk_drew ?_ | refine blk_alloc ?_ _)); exact BK209.out)) : gb209 ≠ gb216)); have n9_ := Aside0.mk ((by rw [hg]; exact Nat.ne_of_gt (blk_lt (g := gb209) (o := .cells #[.int .i64 t204, .slice Ao43 t205.length co43] 31 (0, 0)) (by (with_reducible repeat (first | refine blk_drewN ?_ _ | refine blk_drew ?_ | refine blk_alloc ?_ _)); exact BK209.out)) : gb216 ≠ gb209)); clear HO203; clear HO207; clear HO213; clear BK209; clear HB; have HO203 := n0_; have HO207 := n1_; have HO213 := n2_; have BK209 := n3_; have HB := n4_; have BK216 := n5_; have GW216 := n6_; have GE216 := n7_; have NB209_216 := n8_; have NB216_209 := n9_; clear n0_ n1_ n2_ n3_ n4_ n5_ n6_ n7_ n8_ n9_; clear hb hbox hg; have hnb46 := NB216_209.out; have hnc46 := NB209_216.out; have hcz47_0 : w45.cell? ⟨gb216, 0, none⟩ = some (.int .i64 0) := (blk_cell BK216.out 0).trans rfl; have hcz47_1 : w45.cell? ⟨gb216, 1, none⟩ = some (.slice none 0 0) := (blk_cell BK216.out 1).trans rfl; have hfz47_0 := blk_frozen BK216.out 0; have hfz47_1 := blk_frozen BK216.out 1; obtain ⟨Ao48, co48, eo48⟩ := Kd.R_slice HO213.out; subst eo48) | ((with_reducible refine gate_callee (f := 46) rfl ?_); refine goesL_ (some 23) rfl rfl Try.func46 (by kernel_rfl) rfl #[.agg #[.int .i64 t210, .slice Ao48 t211.length co48]] rfl (by (try simp only [List.map_toArray, List.map_cons, List.map_nil]); first | done | rfl | (simp only [List.length_drop, List.length_take]; rfl)) ?_; (with_reducible refine (words_Ones.calls k t210 _ _ t211 t217 t218 _ ?side1 ?side2 A3.out).mono ?_); (case side1 => refine (Kd.R_reads' (e := 22) (base := w.heap.size) (ok := fun k_ => (True ∧ some k_ ≠ (.slice Ao43 t205.length co43 : Value).ownBlock)) (n := t211.length) (c := co48) ?_).2.2; exact (by (with_reducible repeat (first | apply Kd.R_alloc | apply Kd.R_drewN | apply Kd.R_drew)); exact (Kd.R_mono (Kd.R_far (p := ⟨gb216, 1, none⟩) (Kd.R_far (p := ⟨gb216, 0, none⟩) (Kd.R_types HO213.out BK216.out (by decide)) (fun _ hk => hk.2) (.int .i64 t210)) (fun _ hk => hk.2) (.slice Ao48 t211.length co48)) (fun _ h_ => h_.1)))); (case side2 => exact (Kd.R_reads' HO213.out).2.1); rintro e w49 ⟨rfl, hb⟩; refine ⟨_, rfl, ?_⟩; have n0_ := Aside0.mk (Kd.R_below (by (with_reducible repeat (first | apply Kd.R_alloc | apply Kd.R_drewN | apply Kd.R_drew)); exact (Kd.R_mono (Kd.R_far (p := ⟨gb216, 1, none⟩) (Kd.R_far (p := ⟨gb216, 0, none⟩) (Kd.R_types HO203.out BK216.out (by decide)) (fun _ hk => hk.2) (.int .i64 t210)) (fun _ hk => hk.2) (.slice Ao48 t211.length co48)) (fun _ h_ => h_.1))) hb); have n1_ := Aside0.mk (Kd.R_below (by (with_reducible repeat (first | apply Kd.R_alloc | apply Kd.R_drewN | apply Kd.R_drew)); exact (Kd.R_mono (Kd.R_far (p := ⟨gb216, 1, none⟩) (Kd.R_far (p := ⟨gb216, 0, none⟩) (Kd.R_types HO207.out BK216.out (by decide)) (fun _ hk => hk.2) (.int .i64 t210)) (fun _ hk => hk.2) (.slice Ao48 t211.length co48)) (fun _ h_ => h_.1))) hb); have n2_ := Aside0.mk (Kd.R_below (by (with_reducible repeat (first | apply Kd.R_alloc | apply Kd.R_drewN | apply Kd.R_drew)); exact (Kd.R_mono (Kd.R_far (p := ⟨gb216, 1, none⟩) (Kd.R_far (p := ⟨gb216, 0, none⟩) (Kd.R_types HO213.out BK216.out (by decide)) (fun _ hk => hk.2) (.int .i64 t210)) (fun _ hk => hk.2) (.slice Ao48 t211.length co48)) (fun _ h_ => h_.1))) hb); have n3_ := Aside0.mk (blk_below (g := gb209) (o := .cells #[.int .i64 t204, .slice Ao43 t205.length co43] 31 (0, 0)) (by (with_reducible repeat (first | refine blk_drewN ?_ _ | refine blk_drew ?_ | refine blk_alloc ?_ _)); refine blk_far ?_ NB209_216.out _; (with_reducible repeat (first | refine blk_drewN ?_ _ | refine blk_drew ?_ | refine blk_alloc ?_ _)); refine blk_far ?_ NB209_216.out _; (with_reducible repeat (first | refine blk_drewN ?_ _ | refine blk_drew ?_ | refine blk_alloc ?_ _)); exact BK209.out) hb); have n4_ := Aside0.mk (blk_below (g := gb216) (o := .cells #[.int .i64 t210, .slice Ao48 t211.length co48] 31 (0, 0)) (by (with_reducible repeat (first | refine blk_drewN ?_ _ | refine blk_drew ?_ | refine blk_alloc ?_ _)); refine blk_put (cs := #[.int .i64 t210, .slice none 0 0]) ?_ 1 _ rfl; (with_reducible repeat (first | refine blk_drewN ?_ _ | refine blk_drew ?_ | refine blk_alloc ?_ _)); refine blk_put (cs := #[.int .i64 0, .slice none 0 0]) ?_ 0 _ rfl; (with_reducible repeat (first | refine blk_drewN ?_ _ | refine blk_drew ?_ | refine blk_alloc ?_ _)); exact BK216.out) hb); have n5_ := Aside0.mk (below_step (by repeat (first | (with_reducible first | exact HB.out | apply below_alloc | apply pw_below_drewN | apply below_drew1 | refine below_set ?_ GE209.out | refine below_set ?_ GE216.out) | exact HB.out)) hb); clear HO203; clear HO207; clear HO213; clear BK209; clear BK216; clear HB; have HO203 := n0_; have HO207 := n1_; have HO213 := n2_; have BK209 := n3_; have BK216 := n4_; have HB := n5_; clear n0_ n1_ n2_ n3_ n4_ n5_; (try clear hb); (try clear hb2); (try clear hk); (try clear hi)) | ((with_reducible refine gate_callee (f := 14) rfl ?_); refine goesL_ (some 27) rfl rfl Try.func14 (by kernel_rfl) rfl #[.int .u64 12, .int .u64 10] rfl (by (try simp only [List.map_toArray, List.map_cons, List.map_nil]); first | done | rfl | (simp only [List.length_drop, List.length_take]; rfl)) ?_; (with_reducible refine (words_Half.calls 12 10 t219 t220 _ A4.out).mono ?_); rintro e w' ⟨rfl, ⟨nd, rfl⟩⟩; refine ⟨_, rfl, ?_⟩; have hcz50_0 : w49.cell? ⟨gb209, 0, none⟩ = some (.int .i64 t204) := (blk_cell BK209.out 0).trans rfl; have hcz50_1 : w49.cell? ⟨gb209, 1, none⟩ = some (.slice Ao43 t205.length co43) := (blk_cell BK209.out 1).trans rfl; have hfz50_0 := blk_frozen BK209.out 0; have hfz50_1 := blk_frozen BK209.out 1; have p221 : 0 ≤ (0 : Int) := (by omega); have q221 : 0 < (t205.length : Int) := of_decide_eq_true (by first | (with_reducible assumption) | assumption); obtain ⟨ad221, e221, hx221_0⟩ := Kd.at_int (Kd.R_reads' HO207.out).2.2 0 p221 q221; cases e221; have qi221 : (0 < t205.length) = True := eq_true (by omega); (try rw [show ((0 : Int)).toNat = 0 from rfl] at hx221_0); (try rw [Addr.add_zero'] at hx221_0); replace p221 := eq_true p221; replace q221 := eq_true q221; have hcz51_0 : w49.cell? ⟨gb216, 0, none⟩ = some (.int .i64 t210) := (blk_cell BK216.out 0).trans rfl; have hcz51_1 : w49.cell? ⟨gb216, 1, none⟩ = some (.slice Ao48 t211.length co48) := (blk_cell BK216.out 1).trans rfl; have hfz51_0 := blk_frozen BK216.out 0; have hfz51_1 := blk_frozen BK216.out 1) | (go_at_call 27; (with_reducible refine (words_Get.calls t210 _ _ t211 1 true _ ?side1 ?side2 A14.out).mono ?_); (case side1 => repeat (first | exact (Kd.R_reads' HO213.out).2.2 | (with_reducible refine Kd.C_alloc ?_ _) | (with_reducible refine Kd.C_drewN ?_ _) | (with_reducible refine Kd.C_drew ?_))); (case side2 => exact (Kd.R_reads' HO213.out).2.1); rintro e w52 ⟨rfl, hb⟩; have n0_ := Aside0.mk (Kd.R_below (by (with_reducible repeat (first | apply Kd.R_alloc | apply Kd.R_drewN | apply Kd.R_drew)); exact HO203.out) hb); have n1_ := Aside0.mk (Kd.R_below (by (with_reducible repeat (first | apply Kd.R_alloc | apply Kd.R_drewN | apply Kd.R_drew)); exact HO207.out) hb); have n2_ := Aside0.mk (Kd.R_below (by (with_reducible repeat (first | apply Kd.R_alloc | apply Kd.R_drewN | apply Kd.R_drew)); exact HO213.out) hb); have n3_ := Aside0.mk (blk_below (g := gb209) (o := .cells #[.int .i64 t204, .slice (some ad221) t205.length co43] 31 (0, 0)) (by (with_reducible repeat (first | refine blk_drewN ?_ _ | refine blk_drew ?_ | refine blk_alloc ?_ _)); exact BK209.out) hb); have n4_ := Aside0.mk (blk_below (g := gb216) (o := .cells #[.int .i64 t210, .slice Ao48 t211.length co48] 31 (0, 0)) (by (with_reducible repeat (first | refine blk_drewN ?_ _ | refine blk_drew ?_ | refine blk_alloc ?_ _)); exact BK216.out) hb); have n5_ := Aside0.mk (below_step (by repeat (first | (with_reducible first | exact HB.out | apply below_alloc | apply pw_below_drewN | apply below_drew1 | refine below_set ?_ GE209.out | refine below_set ?_ GE216.out) | exact HB.out)) hb); clear HO203; clear HO207; clear HO213; clear BK209; clear BK216; clear HB; have HO203 := n0_; have HO207 := n1_; have HO213 := n2_; have BK209 := n3_; have BK216 := n4_; have HB := n5_; clear n0_ n1_ n2_ n3_ n4_ n5_; (try clear hb); (try clear hb2); (try clear hk); (try clear hi); have hcz53_0 : w52.cell? ⟨gb216, 0, none⟩ = some (.int .i64 t210) := (blk_cell BK216.out 0).trans rfl; have hcz53_1 : w52.cell? ⟨gb216, 1, none⟩ = some (.slice Ao48 t211.length co48) := (blk_cell BK216.out 1).trans rfl; have hfz53_0 := blk_frozen BK216.out 0; have hfz53_1 := blk_frozen BK216.out 1) | (go_at_call 27; (with_reducible refine (words_Get.calls t210 _ _ t211 2 false _ ?side1 ?side2 A16.out).mono ?_); (case side1 => repeat (first | exact (Kd.R_reads' HO213.out).2.2 | (with_reducible refine Kd.C_alloc ?_ _) | (with_reducible refine Kd.C_drewN ?_ _) | (with_reducible refine Kd.C_drew ?_))); (case side2 => exact (Kd.R_reads' HO213.out).2.1); rintro e w54 ⟨rfl, hb⟩; have n0_ := Aside0.mk (Kd.R_below (by (with_reducible repeat (first | apply Kd.R_alloc | apply Kd.R_drewN | apply Kd.R_drew)); exact HO203.out) hb); have n1_ := Aside0.mk (Kd.R_below (by (with_reducible repeat (first | apply Kd.R_alloc | apply Kd.R_drewN | apply Kd.R_drew)); exact HO207.out) hb); have n2_ := Aside0.mk (Kd.R_below (by (with_reducible repeat (first | apply Kd.R_alloc | apply Kd.R_drewN | apply Kd.R_drew)); exact HO213.out) hb); have n3_ := Aside0.mk (blk_below (g := gb209) (o := .cells #[.int .i64 t204, .slice (some ad221) t205.length co43] 31 (0, 0)) (by (with_reducible repeat (first | refine blk_drewN ?_ _ | refine blk_drew ?_ | refine blk_alloc ?_ _)); exact BK209.out) hb); have n4_ := Aside0.mk (blk_below (g := gb216) (o := .cells #[.int .i64 t210, .slice Ao48 t211.length co48] 31 (0, 0)) (by (with_reducible repeat (first | refine blk_drewN ?_ _ | refine blk_drew ?_ | refine blk_alloc ?_ _)); exact BK216.out) hb); have n5_ := Aside0.mk (below_step (by repeat (first | (with_reducible first | exact HB.out | apply below_alloc | apply pw_below_drewN | apply below_drew1 | refine below_set ?_ GE209.out | refine below_set ?_ GE216.out) | exact HB.out)) hb); clear HO203; clear HO207; clear HO213; clear BK209; clear BK216; clear HB; have HO203 := n0_; have HO207 := n1_; have HO213 := n2_; have BK209 := n3_; have BK216 := n4_; have HB := n5_; clear n0_ n1_ n2_ n3_ n4_ n5_; (try clear hb); (try clear hb2); (try clear hk); (try clear hi)))
                          go_ret
                          exact ⟨by first | rfl | (simp [errW_none, errW_some] <;> rfl) | (simp [*, errW_none, errW_some] <;> rfl), by repeat (first | (with_reducible first | exact HB.out | apply below_alloc | apply pw_below_drewN | apply below_drew1 | refine below_set ?_ GE209.out | refine below_set ?_ GE216.out) | exact HB.out)⟩
                        · rw [if_neg c36] at H
                          exact absurd (Option.some.inj H) (by rw [hrt_]; decide)
                    · replace c15 := Bool.eq_false_iff.mpr c15
                      subst c15
                      have H1 : (some false) = some r := by rw [if_neg (show ¬ (false = true) by decide)] at H; exact H
                      exact absurd (Option.some.inj H1) (by rw [hrt_]; decide)
                  · rw [if_neg c13] at H
                    exact absurd (Option.some.inj H) (by rw [hrt_]; decide)
                · replace c12 := Bool.eq_false_iff.mpr c12
                  subst c12
                  have H1 : (some false) = some r := by rw [if_neg (show ¬ (false = true) by decide)] at H; exact H
                  exact absurd (Option.some.inj H1) (by rw [hrt_]; decide)
              · rw [if_neg c11] at H
                exact absurd (Option.some.inj H) (by rw [hrt_]; decide)
            · rw [if_neg c10] at H
              exact absurd H (by simp)
          · rw [if_neg c9] at H
            exact absurd (Option.some.inj H) (by rw [hrt_]; decide)
        · rw [if_neg c8] at H
          exact absurd (Option.some.inj H) (by rw [hrt_]; decide)
      · rw [if_neg c7] at H
        exact absurd (Option.some.inj H) (by rw [hrt_]; decide)
    · rw [if_neg c6] at H
      exact absurd (Option.some.inj H) (by rw [hrt_]; decide)
  · rw [if_neg c5] at H
    exact absurd (Option.some.inj H) (by rw [hrt_]; decide)
/-- THE ONE PURE STATEMENT of vivariumlaw02_alive: yours. -/
def vivariumlaw02_alive.Pure : Prop := ∃ k, vivariumlaw02_alive.f k  = some true
theorem vivariumlaw02_alive.walk (P : vivariumlaw02_alive.Pure)  (w : World)  :
    Calls Try.prog 13 #[] w fun e w' => e = .returned (.bool true) ∧ Below w.heap.size w w' := by
  obtain ⟨k, h⟩ := P  
  refine (vivariumlaw02_alive.calls k  true w rfl h).mono ?_
  rintro e w' ⟨rfl, hd⟩
  exact ⟨rfl, hd⟩

end Go.Proofs.Ytlghmadoogblcaa.PW
