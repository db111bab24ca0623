/- The machine side of TopoTurns. -/
import Derived.Test.YtmcidodpnhkdfaaPTx
import Derived.Test.YtmcidodpnhkdfaaCheckPlain
import Derived.Test.YtmcidodpnhkdfaaBox
namespace Go.Proofs.Ytmcidodpnhkdfaa.TurnsWalk
open Go.RowKit Go.Proofs.YtmcidodpnhkdfaaW.PrintWords Go.Proofs.Ytmcidodpnhkdfaa.PT Go.Proofs.Ytmcidodpnhkdfaa.CheckPlain Go.Proofs.Ytmcidodpnhkdfaa.Box
set_option linter.unusedVariables false
set_option linter.unusedSimpArgs false
section
variable (k w h u s : Int)
theorem mod_some (a n : Int) : ∃ p, whole_Mod_int.f a n = some p ∧ vivariumref01_Mod.f a n = some p := by
  unfold whole_Mod_int.f vivariumref01_Mod.f
  by_cases h1 : n < 1
  · rw [if_pos h1]; exact ⟨_, rfl, rfl⟩
  · rw [if_neg h1, if_neg (show ¬ n = 0 by omega)]
    by_cases h2 : Int.tmod a n < 0
    · rw [if_pos h2]; exact ⟨_, rfl, rfl⟩
    · rw [if_neg h2]; exact ⟨_, rfl, rfl⟩
theorem canon_one : ∃ c0 c1 c2 c3 c4 c5, topo_Canon.f 5 k w h u s = some (c0, c1, c2, c3, c4, c5) ∧ vivariumref04_Canon.f 5 k w h u s = some (c0, c1, c2, c3, c4, c5) := by
  unfold topo_Canon.f vivariumref04_Canon.f
  rw [prog_check k w h u s 0, ref_check k w h u s 0]
  simp only [Option.bind_some, topo_turned.f, vivariumref04_side.f]
  by_cases h0 : checkR k w h u s = 0
  · rw [if_pos h0, if_pos h0]
    by_cases h1 : u = 0
    · rw [if_pos h1, if_pos h1]; exact ⟨_, _, _, _, _, _, rfl, rfl⟩
    · rw [if_neg h1, if_neg h1]
      by_cases h2 : u = 2
      · rw [if_pos h2]
        obtain ⟨p, hp, hq⟩ := mod_some s h
        simp only [Option.bind_some, hp, hq]
        exact ⟨_, _, _, _, _, _, rfl, rfl⟩
      · rw [if_neg h2]
        obtain ⟨p, hp, hq⟩ := mod_some s w
        simp only [Option.bind_some, hp, hq]
        exact ⟨_, _, _, _, _, _, rfl, rfl⟩
  · rw [if_neg h0, if_neg h0]; exact ⟨_, _, _, _, _, _, rfl, rfl⟩
theorem across_one : ∃ c0 c1 c2 c3 c4 c5, topo_Across.f 5 k w h u s = some (c0, c1, c2, c3, c4, c5) ∧ vivariumref04_Across.f 5 k w h u s = some (c0, c1, c2, c3, c4, c5) := by
  unfold topo_Across.f vivariumref04_Across.f
  rw [prog_check k w h u s 0, ref_check k w h u s 0]
  simp only [Option.bind_some]
  by_cases h0 : checkR k w h u s = 0
  · rw [if_pos h0]
    by_cases h1 : u = 0
    · rw [if_pos h1]; exact ⟨_, _, _, _, _, _, rfl, rfl⟩
    · rw [if_neg h1]; exact ⟨_, _, _, _, _, _, rfl, rfl⟩
  · rw [if_neg h0]; exact ⟨_, _, _, _, _, _, rfl, rfl⟩
theorem endless_one : ∃ c0 c1 c2, topo_Endless.f 5 k w h u s = some (c0, c1, c2) ∧ vivariumref04_Endless.f 5 k w h u s = some (c0, c1, c2) := by
  unfold topo_Endless.f vivariumref04_Endless.f
  rw [prog_check k w h u s 0, ref_check k w h u s 0]
  simp only [Option.bind_some]
  by_cases h0 : checkR k w h u s = 0
  · rw [if_pos h0]; exact ⟨_, _, _, rfl, rfl⟩
  · rw [if_neg h0]; exact ⟨_, _, _, rfl, rfl⟩
end
set_option maxHeartbeats 4000000 in
set_option maxRecDepth 100000 in
theorem law (k wd h u s : Int) (w : World) :
    Calls Try.prog 4 #[.agg #[.int .u8 k, .int .i64 wd, .int .i64 h, .int .u8 u, .int .i64 s]] w fun e w' => e = .returned (.bool true) ∧ Below w.heap.size w w' := by
  obtain ⟨c0, c1, c2, c3, c4, c5, hc, hc'⟩ := canon_one k wd h u s
  obtain ⟨d0, d1, d2, d3, d4, d5, hd, hd'⟩ := across_one k wd h u s
  obtain ⟨b0, b1, b2, he, he'⟩ := endless_one k wd h u s
  have k10 := fun (W : World) => topo_Canon.calls 5 k wd h u s _ _ _ _ _ _ W hc
  have k11 := fun (W : World) => vivariumref04_Canon.calls 5 k wd h u s _ _ _ _ _ _ W hc'
  have k12 := fun (W : World) => topo_Across.calls 5 k wd h u s _ _ _ _ _ _ W hd
  have k13 := fun (W : World) => vivariumref04_Across.calls 5 k wd h u s _ _ _ _ _ _ W hd'
  have k14 := fun (W : World) => topo_Endless.calls 5 k wd h u s _ _ _ W he
  have k15 := fun (W : World) => vivariumref04_Endless.calls 5 k wd h u s _ _ _ W he'
  have K10 := Lib.hid k10; have K11 := Lib.hid k11; have K12 := Lib.hid k12; have K13 := Lib.hid k13; have K14 := Lib.hid k14; have K15 := Lib.hid k15
  clear k10 k11 k12 k13 k14 k15 hc hc' hd hd' he he'
  have hu := Try.underlying23
  go_enter Try.func4, Try.ntmps4
  go_wp2_with (first
    | (go_at_call 10; refine (K10.out _).mono ?_; rintro e w1 ⟨rfl, hb1⟩; have B1_p := (Box.new w (.int .u8 k) (.int .i64 wd) (.int .i64 h) (.int .u8 u) (.int .i64 s) 23).on hb1; have HB1 := Aside0.mk (chain (below_alloc (Below.refl w.heap.size w) _) hb1); clear hb1; obtain ⟨q1_p, x1_p0, x1_p1, x1_p2, x1_p3, x1_p4⟩ := B1_p)
    | (go_at_call 11; refine (K11.out _).mono ?_; rintro e w2 ⟨rfl, hb2⟩; have B2_p := ((Box.mk q1_p x1_p0 x1_p1 x1_p2 x1_p3 x1_p4).alloc _).on hb2; have B2_c := (Box.new w1 (.int .u8 c0) (.int .i64 c1) (.int .i64 c2) (.int .u8 c3) (.int .i64 c4) 23).on hb2; have HB2 := Aside0.mk (chain' HB1.out hb2); clear q1_p x1_p0 x1_p1 x1_p2 x1_p3 x1_p4; clear HB1; clear hb2; obtain ⟨q2_p, x2_p0, x2_p1, x2_p2, x2_p3, x2_p4⟩ := B2_p; obtain ⟨q2_c, x2_c0, x2_c1, x2_c2, x2_c3, x2_c4⟩ := B2_c)
    | (go_at_call 12; refine (K12.out _).mono ?_; rintro e w3 ⟨rfl, hb3⟩; have B3_p := ((Box.mk q2_p x2_p0 x2_p1 x2_p2 x2_p3 x2_p4).alloc _).on hb3; have B3_c := ((Box.mk q2_c x2_c0 x2_c1 x2_c2 x2_c3 x2_c4).alloc _).on hb3; have B3_r := (Box.new w2 (.int .u8 c0) (.int .i64 c1) (.int .i64 c2) (.int .u8 c3) (.int .i64 c4) 23).on hb3; have HB3 := Aside0.mk (chain' HB2.out hb3); clear q2_p x2_p0 x2_p1 x2_p2 x2_p3 x2_p4; clear q2_c x2_c0 x2_c1 x2_c2 x2_c3 x2_c4; clear HB2; clear hb3; obtain ⟨q3_p, x3_p0, x3_p1, x3_p2, x3_p3, x3_p4⟩ := B3_p; obtain ⟨q3_c, x3_c0, x3_c1, x3_c2, x3_c3, x3_c4⟩ := B3_c; obtain ⟨q3_r, x3_r0, x3_r1, x3_r2, x3_r3, x3_r4⟩ := B3_r)
    | (go_at_call 13; refine (K13.out _).mono ?_; rintro e w4 ⟨rfl, hb4⟩; have B4_p := ((Box.mk q3_p x3_p0 x3_p1 x3_p2 x3_p3 x3_p4).alloc _).on hb4; have B4_c := ((Box.mk q3_c x3_c0 x3_c1 x3_c2 x3_c3 x3_c4).alloc _).on hb4; have B4_r := ((Box.mk q3_r x3_r0 x3_r1 x3_r2 x3_r3 x3_r4).alloc _).on hb4; have B4_d := (Box.new w3 (.int .u8 d0) (.int .i64 d1) (.int .i64 d2) (.int .u8 d3) (.int .i64 d4) 23).on hb4; have HB4 := Aside0.mk (chain' HB3.out hb4); clear q3_p x3_p0 x3_p1 x3_p2 x3_p3 x3_p4; clear q3_c x3_c0 x3_c1 x3_c2 x3_c3 x3_c4; clear q3_r x3_r0 x3_r1 x3_r2 x3_r3 x3_r4; clear HB3; clear hb4; obtain ⟨q4_p, x4_p0, x4_p1, x4_p2, x4_p3, x4_p4⟩ := B4_p; obtain ⟨q4_c, x4_c0, x4_c1, x4_c2, x4_c3, x4_c4⟩ := B4_c; obtain ⟨q4_r, x4_r0, x4_r1, x4_r2, x4_r3, x4_r4⟩ := B4_r; obtain ⟨q4_d, x4_d0, x4_d1, x4_d2, x4_d3, x4_d4⟩ := B4_d)
    | (go_at_call 14; refine (K14.out _).mono ?_; rintro e w5 ⟨rfl, hb5⟩; have B5_p := ((Box.mk q4_p x4_p0 x4_p1 x4_p2 x4_p3 x4_p4).alloc _).on hb5; have B5_c := ((Box.mk q4_c x4_c0 x4_c1 x4_c2 x4_c3 x4_c4).alloc _).on hb5; have B5_r := ((Box.mk q4_r x4_r0 x4_r1 x4_r2 x4_r3 x4_r4).alloc _).on hb5; have B5_d := ((Box.mk q4_d x4_d0 x4_d1 x4_d2 x4_d3 x4_d4).alloc _).on hb5; have B5_e := (Box.new w4 (.int .u8 d0) (.int .i64 d1) (.int .i64 d2) (.int .u8 d3) (.int .i64 d4) 23).on hb5; have HB5 := Aside0.mk (chain' HB4.out hb5); clear q4_p x4_p0 x4_p1 x4_p2 x4_p3 x4_p4; clear q4_c x4_c0 x4_c1 x4_c2 x4_c3 x4_c4; clear q4_r x4_r0 x4_r1 x4_r2 x4_r3 x4_r4; clear q4_d x4_d0 x4_d1 x4_d2 x4_d3 x4_d4; clear HB4; clear hb5; obtain ⟨q5_p, x5_p0, x5_p1, x5_p2, x5_p3, x5_p4⟩ := B5_p; obtain ⟨q5_c, x5_c0, x5_c1, x5_c2, x5_c3, x5_c4⟩ := B5_c; obtain ⟨q5_r, x5_r0, x5_r1, x5_r2, x5_r3, x5_r4⟩ := B5_r; obtain ⟨q5_d, x5_d0, x5_d1, x5_d2, x5_d3, x5_d4⟩ := B5_d; obtain ⟨q5_e, x5_e0, x5_e1, x5_e2, x5_e3, x5_e4⟩ := B5_e)
    | (go_at_call 15; refine (K15.out _).mono ?_; rintro e w6 ⟨rfl, hb6⟩; have B6_p := ((Box.mk q5_p x5_p0 x5_p1 x5_p2 x5_p3 x5_p4)).on hb6; have B6_c := ((Box.mk q5_c x5_c0 x5_c1 x5_c2 x5_c3 x5_c4)).on hb6; have B6_r := ((Box.mk q5_r x5_r0 x5_r1 x5_r2 x5_r3 x5_r4)).on hb6; have B6_d := ((Box.mk q5_d x5_d0 x5_d1 x5_d2 x5_d3 x5_d4)).on hb6; have B6_e := ((Box.mk q5_e x5_e0 x5_e1 x5_e2 x5_e3 x5_e4)).on hb6; have HB6 := Aside0.mk (chain HB5.out hb6); clear q5_p x5_p0 x5_p1 x5_p2 x5_p3 x5_p4; clear q5_c x5_c0 x5_c1 x5_c2 x5_c3 x5_c4; clear q5_r x5_r0 x5_r1 x5_r2 x5_r3 x5_r4; clear q5_d x5_d0 x5_d1 x5_d2 x5_d3 x5_d4; clear q5_e x5_e0 x5_e1 x5_e2 x5_e3 x5_e4; clear HB5; clear hb6; obtain ⟨q6_p, x6_p0, x6_p1, x6_p2, x6_p3, x6_p4⟩ := B6_p; obtain ⟨q6_c, x6_c0, x6_c1, x6_c2, x6_c3, x6_c4⟩ := B6_c; obtain ⟨q6_r, x6_r0, x6_r1, x6_r2, x6_r3, x6_r4⟩ := B6_r; obtain ⟨q6_d, x6_d0, x6_d1, x6_d2, x6_d3, x6_d4⟩ := B6_d; obtain ⟨q6_e, x6_e0, x6_e1, x6_e2, x6_e3, x6_e4⟩ := B6_e))
  go_ret
  exact ⟨rfl, HB6.out⟩
end Go.Proofs.Ytmcidodpnhkdfaa.TurnsWalk
