/- The machine side of TopoAcross. -/
import Derived.Test.YtmcidodpnhkdfaaDoorAlive
import Derived.Test.YtmcidodpnhkdfaaDoorPTx3
namespace Go.Proofs.YtmcidodpnhkdfaaDoor.AcrossWalk
open Go.RowKit Go.Proofs.YtmcidodpnhkdfaaDoorW.PrintWords Go.Proofs.YtmcidodpnhkdfaaDoor.Box Go.Proofs.YtmcidodpnhkdfaaDoor.Bx Go.Proofs.YtmcidodpnhkdfaaDoor.Text Go.Proofs.YtmcidodpnhkdfaaDoor.Alive Go.Proofs.YtmcidodpnhkdfaaDoor.PrintPlain Go.Proofs.YtmcidodpnhkdfaaDoor.PrintWalk Go.Proofs.YtmcidodpnhkdfaaDoor.CheckPlain Go.Proofs.YtmcidodpnhkdfaaDoor.HasWalk Go.Proofs.YtmcidodpnhkdfaaDoor.PT
set_option linter.unusedVariables false
set_option linter.unusedSimpArgs false
def swp (u : Int) : Int := if u = 0 then 0 else 3 - u
theorem ok_swp (k w h u x : Int) (hO : OkT k w h u x) : OkT k h w (swp u) x ∧ swp (swp u) = u ∧ 0 ≤ swp u := by
  obtain ⟨a1, a2, a3, a4, a5, a6, a7, a8, a9⟩ := hO
  unfold swp
  rcases a9 with ⟨rfl, b1, b2⟩ | ⟨b0, ⟨rfl, b1, b2⟩ | ⟨rfl, b1, b2⟩⟩
  · refine ⟨⟨a1, a2, a5, a6, a3, a4, fun c => (a7 c).symm, fun c => ⟨(a8 c).2, (a8 c).1⟩, .inl ⟨by simp, b1, b2⟩⟩, by simp, by simp⟩
  · refine ⟨⟨a1, a2, a5, a6, a3, a4, fun c => (a7 c).symm, fun c => ⟨(a8 c).2, (a8 c).1⟩, .inr ⟨?_, .inr ⟨by simp, b1, b2⟩⟩⟩, by simp, by simp⟩
    rcases b0 with ⟨q1, q2, q3, q4⟩ | q
    · exact .inl ⟨q1, q2, q4, q3⟩
    · exact .inr q
  · refine ⟨⟨a1, a2, a5, a6, a3, a4, fun c => (a7 c).symm, fun c => ⟨(a8 c).2, (a8 c).1⟩, .inr ⟨?_, .inl ⟨by simp, b1, b2⟩⟩⟩, by simp, by simp⟩
    rcases b0 with ⟨q1, q2, q3, q4⟩ | q
    · exact .inl ⟨q1, q2, q4, q3⟩
    · exact .inr q
theorem across_ok (k w h u x : Int) (hO : OkT k w h u x) : topo_Across.f 5 k w h u x = some (k, h, w, swp u, x, 0) := by
  have hc := ok_check k w h u x hO
  obtain ⟨a1, a2, a3, a4, a5, a6, a7, a8, a9⟩ := hO
  unfold topo_Across.f swp
  rw [prog_check k w h u x 0, hc]
  simp only [Option.bind_some, if_true]
  by_cases c : u = 0
  · rw [if_pos c, if_pos c, c]
  · rw [if_neg c, if_neg c, show (3 - u) % 256 = 3 - u by omega]
theorem across_bad (k w h u x : Int) (hc : checkR k w h u x ≠ 0) : topo_Across.f 5 k w h u x = some (0, 0, 0, 0, 0, checkR k w h u x) := by
  unfold topo_Across.f
  rw [prog_check k w h u x 0]
  simp only [Option.bind_some]
  rw [if_neg hc]
theorem endless_ok (k w h u x : Int) (hO : OkT k w h u x) : topo_Endless.f 5 k w h u x = some ((w == 0), (h == 0), 0) := by
  have hc := ok_check k w h u x hO
  unfold topo_Endless.f
  rw [prog_check k w h u x 0, hc]
  simp only [Option.bind_some, if_true]
theorem far_swp (x y : Int) : far y x = far x y := by unfold far; congr 1; simp only [eq_iff_iff]; omega
theorem has_swp (k w h u x px py : Int) (hO : OkT k w h u x) : hasB k h w (swp u) x py px = hasB k w h u x px py ∧ hasE k h w (swp u) x py px = hasE k w h u x px py := by
  have hc := ok_check k w h u x hO
  have hc' := ok_check _ _ _ _ _ (ok_swp k w h u x hO).1
  unfold hasB hasE
  rw [if_pos hc, if_pos hc', if_pos hc, if_pos hc', far_swp, Bool.and_comm]
  exact ⟨rfl, rfl⟩
set_option maxHeartbeats 4000000 in
set_option maxRecDepth 100000 in
theorem bad (k wd h u x px py : Int) (c : Int) (hc : (c != 0) = true) (w : World) (m1 : ∀ W : World, Below w.heap.size w W → Calls Tryd.prog 15 #[] W fun e w' => e = .returned (.bool true) ∧ Below W.heap.size W w') (m2 : ∀ W : World, Below w.heap.size w W → Calls Tryd.prog 18 #[.agg #[.int .u8 k, .int .i64 wd, .int .i64 h, .int .u8 u, .int .i64 x]] W fun e w' => e = .returned (.tuple #[.agg #[.int .u8 0, .int .i64 0, .int .i64 0, .int .u8 0, .int .i64 0], .int .i64 c]) ∧ Below W.heap.size W w') (m3 : ∀ W : World, Below w.heap.size w W → Calls Tryd.prog 12 #[.agg #[.int .u8 k, .int .i64 wd, .int .i64 h, .int .u8 u, .int .i64 x]] W fun e w' => e = .returned (.int .i64 c) ∧ Below W.heap.size W w') :
    Calls Tryd.prog 8 #[.agg #[.int .u8 k, .int .i64 wd, .int .i64 h, .int .u8 u, .int .i64 x], .agg #[.int .i64 px, .int .i64 py]] w fun e w' => e = .returned (.bool true) ∧ Below w.heap.size w w' := by
  have M1 := Aside0.mk m1; have M2 := Aside0.mk m2; have M3 := Aside0.mk m3
  clear m1 m2 m3
  have hu0 := Tryd.underlying23
  have hu1 := Tryd.underlying40
  go_enter Tryd.func8, Tryd.ntmps8
  go_wp2_with (first
    | (go_at_call 15; with_reducible refine (M1.out _ (by repeat (first | exact HB.out | exact Below.refl _ _ | apply below_alloc))).mono ?_; rintro e v1 ⟨rfl, hb⟩; have N_t := ((Bx.new _ #[.int .u8 k, .int .i64 wd, .int .i64 h, .int .u8 u, .int .i64 x] 23).alloc _).on hb; have N_p := (Bx.new2 _ _ #[.int .i64 px, .int .i64 py] 40).on hb; have NB := chain (below_alloc (below_alloc (Below.refl w.heap.size w) _) _) hb; clear hb; have HB := Aside0.mk NB; clear NB; have B_t := Aside0.mk N_t; have q_t := N_t.lt; have x_t0 := N_t.c 0 _ rfl; have x_t1 := N_t.c 1 _ rfl; have x_t2 := N_t.c 2 _ rfl; have x_t3 := N_t.c 3 _ rfl; have x_t4 := N_t.c 4 _ rfl; clear N_t; have B_p := Aside0.mk N_p; have q_p := N_p.lt; have x_p0 := N_p.c 0 _ rfl; have x_p1 := N_p.c 1 _ rfl; clear N_p)
    | (go_at_call 18; with_reducible refine (M2.out _ (by repeat (first | exact HB.out | exact Below.refl _ _ | apply below_alloc))).mono ?_; rintro e v2 ⟨rfl, hb⟩; have N_t := (B_t.out).on hb; have N_p := (B_p.out).on hb; have NB := chain HB.out hb; clear hb; clear HB; clear B_t q_t x_t0 x_t1 x_t2 x_t3 x_t4; clear B_p q_p x_p0 x_p1; have HB := Aside0.mk NB; clear NB; have B_t := Aside0.mk N_t; have q_t := N_t.lt; have x_t0 := N_t.c 0 _ rfl; have x_t1 := N_t.c 1 _ rfl; have x_t2 := N_t.c 2 _ rfl; have x_t3 := N_t.c 3 _ rfl; have x_t4 := N_t.c 4 _ rfl; clear N_t; have B_p := Aside0.mk N_p; have q_p := N_p.lt; have x_p0 := N_p.c 0 _ rfl; have x_p1 := N_p.c 1 _ rfl; clear N_p)
    | (go_at_call 12; with_reducible refine (M3.out _ (by repeat (first | exact HB.out | exact Below.refl _ _ | apply below_alloc))).mono ?_; rintro e v3 ⟨rfl, hb⟩; have N_t := ((B_t.out).alloc _).on hb; have N_p := ((B_p.out).alloc _).on hb; have N_z := (Bx.new _ #[.int .u8 0, .int .i64 0, .int .i64 0, .int .u8 0, .int .i64 0] 23).on hb; have NB := chain (below_alloc HB.out _) hb; clear hb; clear HB; clear B_t q_t x_t0 x_t1 x_t2 x_t3 x_t4; clear B_p q_p x_p0 x_p1; have HB := Aside0.mk NB; clear NB; have B_t := Aside0.mk N_t; have q_t := N_t.lt; have x_t0 := N_t.c 0 _ rfl; have x_t1 := N_t.c 1 _ rfl; have x_t2 := N_t.c 2 _ rfl; have x_t3 := N_t.c 3 _ rfl; have x_t4 := N_t.c 4 _ rfl; clear N_t; have B_p := Aside0.mk N_p; have q_p := N_p.lt; have x_p0 := N_p.c 0 _ rfl; have x_p1 := N_p.c 1 _ rfl; clear N_p; have B_z := Aside0.mk N_z; have q_z := N_z.lt; have x_z0 := N_z.c 0 _ rfl; have x_z1 := N_z.c 1 _ rfl; have x_z2 := N_z.c 2 _ rfl; have x_z3 := N_z.c 3 _ rfl; have x_z4 := N_z.c 4 _ rfl; clear N_z))
  go_ret
  exact ⟨rfl, HB.out⟩
set_option maxHeartbeats 4000000 in
set_option maxRecDepth 100000 in
theorem good (k wd h u u' x px py : Int) (b bw bh : Bool) (c : Int) (w : World) (m1 : ∀ W : World, Below w.heap.size w W → Calls Tryd.prog 15 #[] W fun e w' => e = .returned (.bool true) ∧ Below W.heap.size W w') (m2 : ∀ W : World, Below w.heap.size w W → Calls Tryd.prog 18 #[.agg #[.int .u8 k, .int .i64 wd, .int .i64 h, .int .u8 u, .int .i64 x]] W fun e w' => e = .returned (.tuple #[.agg #[.int .u8 k, .int .i64 h, .int .i64 wd, .int .u8 u', .int .i64 x], .int .i64 0]) ∧ Below W.heap.size W w') (m3 : ∀ W : World, Below w.heap.size w W → Calls Tryd.prog 18 #[.agg #[.int .u8 k, .int .i64 h, .int .i64 wd, .int .u8 u', .int .i64 x]] W fun e w' => e = .returned (.tuple #[.agg #[.int .u8 k, .int .i64 wd, .int .i64 h, .int .u8 u, .int .i64 x], .int .i64 0]) ∧ Below W.heap.size W w') (m4 : ∀ W : World, Below w.heap.size w W → Calls Tryd.prog 19 #[.agg #[.int .u8 k, .int .i64 wd, .int .i64 h, .int .u8 u, .int .i64 x], .agg #[.int .i64 px, .int .i64 py]] W fun e w' => e = .returned (.tuple #[.bool b, .int .i64 c]) ∧ Below W.heap.size W w') (m5 : ∀ W : World, Below w.heap.size w W → Calls Tryd.prog 19 #[.agg #[.int .u8 k, .int .i64 h, .int .i64 wd, .int .u8 u', .int .i64 x], .agg #[.int .i64 py, .int .i64 px]] W fun e w' => e = .returned (.tuple #[.bool b, .int .i64 c]) ∧ Below W.heap.size W w') (m6 : ∀ W : World, Below w.heap.size w W → Calls Tryd.prog 20 #[.agg #[.int .u8 k, .int .i64 wd, .int .i64 h, .int .u8 u, .int .i64 x]] W fun e w' => e = .returned (.tuple #[.bool bw, .bool bh, .int .i64 0]) ∧ Below W.heap.size W w') (m7 : ∀ W : World, Below w.heap.size w W → Calls Tryd.prog 20 #[.agg #[.int .u8 k, .int .i64 h, .int .i64 wd, .int .u8 u', .int .i64 x]] W fun e w' => e = .returned (.tuple #[.bool bh, .bool bw, .int .i64 0]) ∧ Below W.heap.size W w') (m8 : ∀ W : World, Below w.heap.size w W → Calls Tryd.prog 12 #[.agg #[.int .u8 k, .int .i64 h, .int .i64 wd, .int .u8 u', .int .i64 x]] W fun e w' => e = .returned (.int .i64 0) ∧ Below W.heap.size W w') :
    Calls Tryd.prog 8 #[.agg #[.int .u8 k, .int .i64 wd, .int .i64 h, .int .u8 u, .int .i64 x], .agg #[.int .i64 px, .int .i64 py]] w fun e w' => e = .returned (.bool true) ∧ Below w.heap.size w w' := by
  have M1 := Aside0.mk m1; have M2 := Aside0.mk m2; have M3 := Aside0.mk m3; have M4 := Aside0.mk m4; have M5 := Aside0.mk m5; have M6 := Aside0.mk m6; have M7 := Aside0.mk m7; have M8 := Aside0.mk m8
  clear m1 m2 m3 m4 m5 m6 m7 m8
  have hu0 := Tryd.underlying23
  have hu1 := Tryd.underlying40
  go_enter Tryd.func8, Tryd.ntmps8
  go_wp2_with (first
    | (go_at_call 15; with_reducible refine (M1.out _ (by repeat (first | exact HB.out | exact Below.refl _ _ | apply below_alloc))).mono ?_; rintro e v1 ⟨rfl, hb⟩; have N_t := ((Bx.new _ #[.int .u8 k, .int .i64 wd, .int .i64 h, .int .u8 u, .int .i64 x] 23).alloc _).on hb; have N_p := (Bx.new2 _ _ #[.int .i64 px, .int .i64 py] 40).on hb; have NB := chain (below_alloc (below_alloc (Below.refl w.heap.size w) _) _) hb; clear hb; have HB := Aside0.mk NB; clear NB; have B_t := Aside0.mk N_t; have q_t := N_t.lt; have x_t0 := N_t.c 0 _ rfl; have x_t1 := N_t.c 1 _ rfl; have x_t2 := N_t.c 2 _ rfl; have x_t3 := N_t.c 3 _ rfl; have x_t4 := N_t.c 4 _ rfl; clear N_t; have B_p := Aside0.mk N_p; have q_p := N_p.lt; have x_p0 := N_p.c 0 _ rfl; have x_p1 := N_p.c 1 _ rfl; clear N_p)
    | (go_at_call 18; with_reducible refine (M2.out _ (by repeat (first | exact HB.out | exact Below.refl _ _ | apply below_alloc))).mono ?_; rintro e v2 ⟨rfl, hb⟩; have N_t := (B_t.out).on hb; have N_p := (B_p.out).on hb; have NB := chain HB.out hb; clear hb; clear HB; clear B_t q_t x_t0 x_t1 x_t2 x_t3 x_t4; clear B_p q_p x_p0 x_p1; have HB := Aside0.mk NB; clear NB; have B_t := Aside0.mk N_t; have q_t := N_t.lt; have x_t0 := N_t.c 0 _ rfl; have x_t1 := N_t.c 1 _ rfl; have x_t2 := N_t.c 2 _ rfl; have x_t3 := N_t.c 3 _ rfl; have x_t4 := N_t.c 4 _ rfl; clear N_t; have B_p := Aside0.mk N_p; have q_p := N_p.lt; have x_p0 := N_p.c 0 _ rfl; have x_p1 := N_p.c 1 _ rfl; clear N_p)
    | (go_at_call 18; with_reducible refine (M3.out _ (by repeat (first | exact HB.out | exact Below.refl _ _ | apply below_alloc))).mono ?_; rintro e v3 ⟨rfl, hb⟩; have N_t := ((B_t.out).alloc _).on hb; have N_p := ((B_p.out).alloc _).on hb; have N_v := (Bx.new _ #[.int .u8 k, .int .i64 h, .int .i64 wd, .int .u8 u', .int .i64 x] 23).on hb; have NB := chain (below_alloc HB.out _) hb; clear hb; clear HB; clear B_t q_t x_t0 x_t1 x_t2 x_t3 x_t4; clear B_p q_p x_p0 x_p1; have HB := Aside0.mk NB; clear NB; have B_t := Aside0.mk N_t; have q_t := N_t.lt; have x_t0 := N_t.c 0 _ rfl; have x_t1 := N_t.c 1 _ rfl; have x_t2 := N_t.c 2 _ rfl; have x_t3 := N_t.c 3 _ rfl; have x_t4 := N_t.c 4 _ rfl; clear N_t; have B_p := Aside0.mk N_p; have q_p := N_p.lt; have x_p0 := N_p.c 0 _ rfl; have x_p1 := N_p.c 1 _ rfl; clear N_p; have B_v := Aside0.mk N_v; have q_v := N_v.lt; have x_v0 := N_v.c 0 _ rfl; have x_v1 := N_v.c 1 _ rfl; have x_v2 := N_v.c 2 _ rfl; have x_v3 := N_v.c 3 _ rfl; have x_v4 := N_v.c 4 _ rfl; clear N_v)
    | (go_at_call 19; with_reducible refine (M4.out _ (by repeat (first | exact HB.out | exact Below.refl _ _ | apply below_alloc))).mono ?_; rintro e v4 ⟨rfl, hb⟩; have N_t := ((B_t.out).alloc _).on hb; have N_p := ((B_p.out).alloc _).on hb; have N_v := ((B_v.out).alloc _).on hb; have N_r := (Bx.new _ #[.int .u8 k, .int .i64 wd, .int .i64 h, .int .u8 u, .int .i64 x] 23).on hb; have NB := chain (below_alloc HB.out _) hb; clear hb; clear HB; clear B_t q_t x_t0 x_t1 x_t2 x_t3 x_t4; clear B_p q_p x_p0 x_p1; clear B_v q_v x_v0 x_v1 x_v2 x_v3 x_v4; have HB := Aside0.mk NB; clear NB; have B_t := Aside0.mk N_t; have q_t := N_t.lt; have x_t0 := N_t.c 0 _ rfl; have x_t1 := N_t.c 1 _ rfl; have x_t2 := N_t.c 2 _ rfl; have x_t3 := N_t.c 3 _ rfl; have x_t4 := N_t.c 4 _ rfl; clear N_t; have B_p := Aside0.mk N_p; have q_p := N_p.lt; have x_p0 := N_p.c 0 _ rfl; have x_p1 := N_p.c 1 _ rfl; clear N_p; have B_v := Aside0.mk N_v; have q_v := N_v.lt; have x_v0 := N_v.c 0 _ rfl; have x_v1 := N_v.c 1 _ rfl; have x_v2 := N_v.c 2 _ rfl; have x_v3 := N_v.c 3 _ rfl; have x_v4 := N_v.c 4 _ rfl; clear N_v; have B_r := Aside0.mk N_r; have q_r := N_r.lt; have x_r0 := N_r.c 0 _ rfl; have x_r1 := N_r.c 1 _ rfl; have x_r2 := N_r.c 2 _ rfl; have x_r3 := N_r.c 3 _ rfl; have x_r4 := N_r.c 4 _ rfl; clear N_r)
    | (go_at_call 19; with_reducible refine (M5.out _ (by repeat (first | exact HB.out | exact Below.refl _ _ | apply below_alloc))).mono ?_; rintro e v5 ⟨rfl, hb⟩; have N_t := (B_t.out).on hb; have N_p := (B_p.out).on hb; have N_v := (B_v.out).on hb; have N_r := (B_r.out).on hb; have NB := chain HB.out hb; clear hb; clear HB; clear B_t q_t x_t0 x_t1 x_t2 x_t3 x_t4; clear B_p q_p x_p0 x_p1; clear B_v q_v x_v0 x_v1 x_v2 x_v3 x_v4; clear B_r q_r x_r0 x_r1 x_r2 x_r3 x_r4; have HB := Aside0.mk NB; clear NB; have B_t := Aside0.mk N_t; have q_t := N_t.lt; have x_t0 := N_t.c 0 _ rfl; have x_t1 := N_t.c 1 _ rfl; have x_t2 := N_t.c 2 _ rfl; have x_t3 := N_t.c 3 _ rfl; have x_t4 := N_t.c 4 _ rfl; clear N_t; have B_p := Aside0.mk N_p; have q_p := N_p.lt; have x_p0 := N_p.c 0 _ rfl; have x_p1 := N_p.c 1 _ rfl; clear N_p; have B_v := Aside0.mk N_v; have q_v := N_v.lt; have x_v0 := N_v.c 0 _ rfl; have x_v1 := N_v.c 1 _ rfl; have x_v2 := N_v.c 2 _ rfl; have x_v3 := N_v.c 3 _ rfl; have x_v4 := N_v.c 4 _ rfl; clear N_v; have B_r := Aside0.mk N_r; have q_r := N_r.lt; have x_r0 := N_r.c 0 _ rfl; have x_r1 := N_r.c 1 _ rfl; have x_r2 := N_r.c 2 _ rfl; have x_r3 := N_r.c 3 _ rfl; have x_r4 := N_r.c 4 _ rfl; clear N_r)
    | (go_at_call 20; with_reducible refine (M6.out _ (by repeat (first | exact HB.out | exact Below.refl _ _ | apply below_alloc))).mono ?_; rintro e v6 ⟨rfl, hb⟩; have N_t := (B_t.out).on hb; have N_p := (B_p.out).on hb; have N_v := (B_v.out).on hb; have N_r := (B_r.out).on hb; have NB := chain HB.out hb; clear hb; clear HB; clear B_t q_t x_t0 x_t1 x_t2 x_t3 x_t4; clear B_p q_p x_p0 x_p1; clear B_v q_v x_v0 x_v1 x_v2 x_v3 x_v4; clear B_r q_r x_r0 x_r1 x_r2 x_r3 x_r4; have HB := Aside0.mk NB; clear NB; have B_t := Aside0.mk N_t; have q_t := N_t.lt; have x_t0 := N_t.c 0 _ rfl; have x_t1 := N_t.c 1 _ rfl; have x_t2 := N_t.c 2 _ rfl; have x_t3 := N_t.c 3 _ rfl; have x_t4 := N_t.c 4 _ rfl; clear N_t; have B_p := Aside0.mk N_p; have q_p := N_p.lt; have x_p0 := N_p.c 0 _ rfl; have x_p1 := N_p.c 1 _ rfl; clear N_p; have B_v := Aside0.mk N_v; have q_v := N_v.lt; have x_v0 := N_v.c 0 _ rfl; have x_v1 := N_v.c 1 _ rfl; have x_v2 := N_v.c 2 _ rfl; have x_v3 := N_v.c 3 _ rfl; have x_v4 := N_v.c 4 _ rfl; clear N_v; have B_r := Aside0.mk N_r; have q_r := N_r.lt; have x_r0 := N_r.c 0 _ rfl; have x_r1 := N_r.c 1 _ rfl; have x_r2 := N_r.c 2 _ rfl; have x_r3 := N_r.c 3 _ rfl; have x_r4 := N_r.c 4 _ rfl; clear N_r)
    | (go_at_call 20; with_reducible refine (M7.out _ (by repeat (first | exact HB.out | exact Below.refl _ _ | apply below_alloc))).mono ?_; rintro e v7 ⟨rfl, hb⟩; have N_t := (B_t.out).on hb; have N_p := (B_p.out).on hb; have N_v := (B_v.out).on hb; have N_r := (B_r.out).on hb; have NB := chain HB.out hb; clear hb; clear HB; clear B_t q_t x_t0 x_t1 x_t2 x_t3 x_t4; clear B_p q_p x_p0 x_p1; clear B_v q_v x_v0 x_v1 x_v2 x_v3 x_v4; clear B_r q_r x_r0 x_r1 x_r2 x_r3 x_r4; have HB := Aside0.mk NB; clear NB; have B_t := Aside0.mk N_t; have q_t := N_t.lt; have x_t0 := N_t.c 0 _ rfl; have x_t1 := N_t.c 1 _ rfl; have x_t2 := N_t.c 2 _ rfl; have x_t3 := N_t.c 3 _ rfl; have x_t4 := N_t.c 4 _ rfl; clear N_t; have B_p := Aside0.mk N_p; have q_p := N_p.lt; have x_p0 := N_p.c 0 _ rfl; have x_p1 := N_p.c 1 _ rfl; clear N_p; have B_v := Aside0.mk N_v; have q_v := N_v.lt; have x_v0 := N_v.c 0 _ rfl; have x_v1 := N_v.c 1 _ rfl; have x_v2 := N_v.c 2 _ rfl; have x_v3 := N_v.c 3 _ rfl; have x_v4 := N_v.c 4 _ rfl; clear N_v; have B_r := Aside0.mk N_r; have q_r := N_r.lt; have x_r0 := N_r.c 0 _ rfl; have x_r1 := N_r.c 1 _ rfl; have x_r2 := N_r.c 2 _ rfl; have x_r3 := N_r.c 3 _ rfl; have x_r4 := N_r.c 4 _ rfl; clear N_r)
    | (go_at_call 12; with_reducible refine (M8.out _ (by repeat (first | exact HB.out | exact Below.refl _ _ | apply below_alloc))).mono ?_; rintro e v8 ⟨rfl, hb⟩; have N_t := (B_t.out).on hb; have N_p := (B_p.out).on hb; have N_v := (B_v.out).on hb; have N_r := (B_r.out).on hb; have NB := chain HB.out hb; clear hb; clear HB; clear B_t q_t x_t0 x_t1 x_t2 x_t3 x_t4; clear B_p q_p x_p0 x_p1; clear B_v q_v x_v0 x_v1 x_v2 x_v3 x_v4; clear B_r q_r x_r0 x_r1 x_r2 x_r3 x_r4; have HB := Aside0.mk NB; clear NB; have B_t := Aside0.mk N_t; have q_t := N_t.lt; have x_t0 := N_t.c 0 _ rfl; have x_t1 := N_t.c 1 _ rfl; have x_t2 := N_t.c 2 _ rfl; have x_t3 := N_t.c 3 _ rfl; have x_t4 := N_t.c 4 _ rfl; clear N_t; have B_p := Aside0.mk N_p; have q_p := N_p.lt; have x_p0 := N_p.c 0 _ rfl; have x_p1 := N_p.c 1 _ rfl; clear N_p; have B_v := Aside0.mk N_v; have q_v := N_v.lt; have x_v0 := N_v.c 0 _ rfl; have x_v1 := N_v.c 1 _ rfl; have x_v2 := N_v.c 2 _ rfl; have x_v3 := N_v.c 3 _ rfl; have x_v4 := N_v.c 4 _ rfl; clear N_v; have B_r := Aside0.mk N_r; have q_r := N_r.lt; have x_r0 := N_r.c 0 _ rfl; have x_r1 := N_r.c 1 _ rfl; have x_r2 := N_r.c 2 _ rfl; have x_r3 := N_r.c 3 _ rfl; have x_r4 := N_r.c 4 _ rfl; clear N_r))
  go_ret
  exact ⟨rfl, HB.out⟩
theorem law (k wd h u x px py : Int) (hk : (Lit.int .u8 k).wf = true) (hw : (Lit.int .i64 wd).wf = true) (hh : (Lit.int .i64 h).wf = true) (hu : (Lit.int .u8 u).wf = true) (hx : (Lit.int .i64 x).wf = true) (hpx : (Lit.int .i64 px).wf = true) (hpy : (Lit.int .i64 py).wf = true) (w : World) (hp : Pow w) :
    Calls Tryd.prog 8 #[.agg #[.int .u8 k, .int .i64 wd, .int .i64 h, .int .u8 u, .int .i64 x], .agg #[.int .i64 px, .int .i64 py]] w fun e w' => e = .returned (.bool true) ∧ Below w.heap.size w w' := by
  have u0 : 0 ≤ u := by simp [Lit.wf, IntKind.min, IntKind.max, IntKind.signed, IntKind.bits] at hu; omega
  have m1 : ∀ W : World, Below w.heap.size w W → Calls Tryd.prog 15 #[] W fun e w' => e = .returned (.bool true) ∧ Below W.heap.size W w' := fun W hb => alive W (hp.on hb)
  have m3 := fun (W : World) (_ : Below w.heap.size w W) => topo_Check.calls 5 k wd h u x _ W (prog_check k wd h u x 0)
  by_cases hc : checkR k wd h u x = 0
  · have hO := okT k wd h u x u0 hc
    obtain ⟨hV, s1, s2⟩ := ok_swp k wd h u x hO
    have a1 := fun (W : World) (_ : Below w.heap.size w W) => topo_Across.calls 5 k wd h u x _ _ _ _ _ _ W (across_ok k wd h u x hO)
    have a2 := fun (W : World) (_ : Below w.heap.size w W) => topo_Across.calls 5 k h wd (swp u) x _ _ _ _ _ _ W (across_ok k h wd (swp u) x hV)
    have a4 := fun (W : World) (_ : Below w.heap.size w W) => has_any k wd h u x px py W
    have a5 := fun (W : World) (_ : Below w.heap.size w W) => has_any k h wd (swp u) x py px W
    rw [(has_swp k wd h u x px py hO).1, (has_swp k wd h u x px py hO).2] at a5
    rw [s1] at a2
    have a6 := fun (W : World) (_ : Below w.heap.size w W) => topo_Endless.calls 5 k wd h u x _ _ _ W (endless_ok k wd h u x hO)
    have a7 := fun (W : World) (_ : Below w.heap.size w W) => topo_Endless.calls 5 k h wd (swp u) x _ _ _ W (endless_ok k h wd (swp u) x hV)
    have a8 := fun (W : World) (_ : Below w.heap.size w W) => topo_Check.calls 5 k h wd (swp u) x _ W (prog_check k h wd (swp u) x 0)
    rw [ok_check _ _ _ _ _ hV] at a8
    exact good k wd h u (swp u) x px py _ _ _ _ w m1 a1 a2 a4 a5 a6 a7 a8
  · exact bad k wd h u x px py _ (bne_iff_ne.mpr hc) w m1 (fun W _ => topo_Across.calls 5 k wd h u x _ _ _ _ _ _ W (across_bad k wd h u x hc)) m3
end Go.Proofs.YtmcidodpnhkdfaaDoor.AcrossWalk
