/- The machine side of TopoCanon. -/
import Derived.Test.YtmcidodpnhkdfaaDoorAlive
import Derived.Test.YtmcidodpnhkdfaaDoorPTx3
namespace Go.Proofs.YtmcidodpnhkdfaaDoor.CanonWalk
open Go.RowKit Go.Proofs.YtmcidodpnhkdfaaDoorW.PrintWords Go.Proofs.YtmcidodpnhkdfaaDoor.Box Go.Proofs.YtmcidodpnhkdfaaDoor.Bx Go.Proofs.YtmcidodpnhkdfaaDoor.Text Go.Proofs.YtmcidodpnhkdfaaDoor.Alive Go.Proofs.YtmcidodpnhkdfaaDoor.PrintPlain Go.Proofs.YtmcidodpnhkdfaaDoor.PrintWalk Go.Proofs.YtmcidodpnhkdfaaDoor.CheckPlain Go.Proofs.YtmcidodpnhkdfaaDoor.PT
set_option linter.unusedVariables false
set_option linter.unusedSimpArgs false
set_option maxHeartbeats 4000000 in
set_option maxRecDepth 100000 in
theorem bad (k wd h u x : Int) (c : Int) (hc : (c != 0) = true) (w : World) (m1 : ∀ W : World, Below w.heap.size w W → Calls Tryd.prog 15 #[] W fun e w' => e = .returned (.bool true) ∧ Below W.heap.size W w') (m2 : ∀ W : World, Below w.heap.size w W → Calls Tryd.prog 21 #[.agg #[.int .u8 k, .int .i64 wd, .int .i64 h, .int .u8 u, .int .i64 x]] W fun e w' => e = .returned (.tuple #[.agg #[.int .u8 0, .int .i64 0, .int .i64 0, .int .u8 0, .int .i64 0], .int .i64 c]) ∧ Below W.heap.size W w') (m3 : ∀ W : World, Below w.heap.size w W → Calls Tryd.prog 12 #[.agg #[.int .u8 k, .int .i64 wd, .int .i64 h, .int .u8 u, .int .i64 x]] W fun e w' => e = .returned (.int .i64 c) ∧ Below W.heap.size W w') :
    Calls Tryd.prog 9 #[.agg #[.int .u8 k, .int .i64 wd, .int .i64 h, .int .u8 u, .int .i64 x]] w fun e w' => e = .returned (.bool true) ∧ Below w.heap.size w w' := by
  have M1 := Aside0.mk m1; have M2 := Aside0.mk m2; have M3 := Aside0.mk m3
  clear m1 m2 m3
  have hu0 := Tryd.underlying23
  go_enter Tryd.func9, Tryd.ntmps9
  go_wp2_with (first
    | (go_at_call 15; with_reducible refine (M1.out _ (by repeat (first | exact HB.out | exact Below.refl _ _ | apply below_alloc))).mono ?_; rintro e v1 ⟨rfl, hb⟩; have N_t := (Bx.new _ #[.int .u8 k, .int .i64 wd, .int .i64 h, .int .u8 u, .int .i64 x] 23).on hb; have NB := chain (below_alloc (Below.refl w.heap.size w) _) hb; clear hb; have HB := Aside0.mk NB; clear NB; have B_t := Aside0.mk N_t; have q_t := N_t.lt; have x_t0 := N_t.c 0 _ rfl; have x_t1 := N_t.c 1 _ rfl; have x_t2 := N_t.c 2 _ rfl; have x_t3 := N_t.c 3 _ rfl; have x_t4 := N_t.c 4 _ rfl; clear N_t)
    | (go_at_call 21; with_reducible refine (M2.out _ (by repeat (first | exact HB.out | exact Below.refl _ _ | apply below_alloc))).mono ?_; rintro e v2 ⟨rfl, hb⟩; have N_t := (B_t.out).on hb; have NB := chain HB.out hb; clear hb; clear HB; clear B_t q_t x_t0 x_t1 x_t2 x_t3 x_t4; have HB := Aside0.mk NB; clear NB; have B_t := Aside0.mk N_t; have q_t := N_t.lt; have x_t0 := N_t.c 0 _ rfl; have x_t1 := N_t.c 1 _ rfl; have x_t2 := N_t.c 2 _ rfl; have x_t3 := N_t.c 3 _ rfl; have x_t4 := N_t.c 4 _ rfl; clear N_t)
    | (go_at_call 12; with_reducible refine (M3.out _ (by repeat (first | exact HB.out | exact Below.refl _ _ | apply below_alloc))).mono ?_; rintro e v3 ⟨rfl, hb⟩; have N_t := ((B_t.out).alloc _).on hb; have N_z := (Bx.new _ #[.int .u8 0, .int .i64 0, .int .i64 0, .int .u8 0, .int .i64 0] 23).on hb; have NB := chain (below_alloc HB.out _) hb; clear hb; clear HB; clear B_t q_t x_t0 x_t1 x_t2 x_t3 x_t4; have HB := Aside0.mk NB; clear NB; have B_t := Aside0.mk N_t; have q_t := N_t.lt; have x_t0 := N_t.c 0 _ rfl; have x_t1 := N_t.c 1 _ rfl; have x_t2 := N_t.c 2 _ rfl; have x_t3 := N_t.c 3 _ rfl; have x_t4 := N_t.c 4 _ rfl; clear N_t; have B_z := Aside0.mk N_z; have q_z := N_z.lt; have x_z0 := N_z.c 0 _ rfl; have x_z1 := N_z.c 1 _ rfl; have x_z2 := N_z.c 2 _ rfl; have x_z3 := N_z.c 3 _ rfl; have x_z4 := N_z.c 4 _ rfl; clear N_z))
  go_ret
  exact ⟨rfl, HB.out⟩
set_option maxHeartbeats 4000000 in
set_option maxRecDepth 100000 in
theorem good0 (k wd h : Int) (w : World) (m1 : ∀ W : World, Below w.heap.size w W → Calls Tryd.prog 15 #[] W fun e w' => e = .returned (.bool true) ∧ Below W.heap.size W w') (m2 : ∀ W : World, Below w.heap.size w W → Calls Tryd.prog 21 #[.agg #[.int .u8 k, .int .i64 wd, .int .i64 h, .int .u8 0, .int .i64 0]] W fun e w' => e = .returned (.tuple #[.agg #[.int .u8 k, .int .i64 wd, .int .i64 h, .int .u8 0, .int .i64 0], .int .i64 0]) ∧ Below W.heap.size W w') :
    Calls Tryd.prog 9 #[.agg #[.int .u8 k, .int .i64 wd, .int .i64 h, .int .u8 0, .int .i64 0]] w fun e w' => e = .returned (.bool true) ∧ Below w.heap.size w w' := by
  have M1 := Aside0.mk m1; have M2 := Aside0.mk m2
  clear m1 m2
  have hu0 := Tryd.underlying23
  go_enter Tryd.func9, Tryd.ntmps9
  go_wp2_with (first
    | (go_at_call 15; with_reducible refine (M1.out _ (by repeat (first | exact HB.out | exact Below.refl _ _ | apply below_alloc))).mono ?_; rintro e v1 ⟨rfl, hb⟩; have N_t := (Bx.new _ #[.int .u8 k, .int .i64 wd, .int .i64 h, .int .u8 0, .int .i64 0] 23).on hb; have NB := chain (below_alloc (Below.refl w.heap.size w) _) hb; clear hb; have HB := Aside0.mk NB; clear NB; have B_t := Aside0.mk N_t; have q_t := N_t.lt; have x_t0 := N_t.c 0 _ rfl; have x_t1 := N_t.c 1 _ rfl; have x_t2 := N_t.c 2 _ rfl; have x_t3 := N_t.c 3 _ rfl; have x_t4 := N_t.c 4 _ rfl; clear N_t)
    | (go_at_call 21; with_reducible refine (M2.out _ (by repeat (first | exact HB.out | exact Below.refl _ _ | apply below_alloc))).mono ?_; rintro e v2 ⟨rfl, hb⟩; have N_t := (B_t.out).on hb; have NB := chain HB.out hb; clear hb; clear HB; clear B_t q_t x_t0 x_t1 x_t2 x_t3 x_t4; have HB := Aside0.mk NB; clear NB; have B_t := Aside0.mk N_t; have q_t := N_t.lt; have x_t0 := N_t.c 0 _ rfl; have x_t1 := N_t.c 1 _ rfl; have x_t2 := N_t.c 2 _ rfl; have x_t3 := N_t.c 3 _ rfl; have x_t4 := N_t.c 4 _ rfl; clear N_t)
    | (go_at_call 21; with_reducible refine (M2.out _ (by repeat (first | exact HB.out | exact Below.refl _ _ | apply below_alloc))).mono ?_; rintro e v3 ⟨rfl, hb⟩; have N_t := ((B_t.out).alloc _).on hb; have N_c := (Bx.new _ #[.int .u8 k, .int .i64 wd, .int .i64 h, .int .u8 0, .int .i64 0] 23).on hb; have lt_t_c := q_t; have NB := chain (below_alloc HB.out _) hb; clear hb; clear HB; clear B_t q_t x_t0 x_t1 x_t2 x_t3 x_t4; have HB := Aside0.mk NB; clear NB; have B_t := Aside0.mk N_t; have q_t := N_t.lt; have x_t0 := N_t.c 0 _ rfl; have x_t1 := N_t.c 1 _ rfl; have x_t2 := N_t.c 2 _ rfl; have x_t3 := N_t.c 3 _ rfl; have x_t4 := N_t.c 4 _ rfl; clear N_t; have B_c := Aside0.mk N_c; have q_c := N_c.lt; have x_c0 := N_c.c 0 _ rfl; have x_c1 := N_c.c 1 _ rfl; have x_c2 := N_c.c 2 _ rfl; have x_c3 := N_c.c 3 _ rfl; have x_c4 := N_c.c 4 _ rfl; have z_ := fun o => (N_c.alloc o).fz 4; clear N_c))
  go_ret
  exact ⟨rfl, below_alloc (below_set HB.out (Nat.le_of_lt lt_t_c)) _⟩
set_option maxHeartbeats 4000000 in
set_option maxRecDepth 100000 in
theorem good1 (k wd h x r : Int) (r0 : ¬ r < 0) (r1 : ¬ r ≥ wd) (nz : (wd == 0) = false) (ez : Int.tmod (wrap64 (r - x)) wd = 0) (w : World) (m1 : ∀ W : World, Below w.heap.size w W → Calls Tryd.prog 15 #[] W fun e w' => e = .returned (.bool true) ∧ Below W.heap.size W w') (m2 : ∀ W : World, Below w.heap.size w W → Calls Tryd.prog 21 #[.agg #[.int .u8 k, .int .i64 wd, .int .i64 h, .int .u8 1, .int .i64 x]] W fun e w' => e = .returned (.tuple #[.agg #[.int .u8 k, .int .i64 wd, .int .i64 h, .int .u8 1, .int .i64 r], .int .i64 0]) ∧ Below W.heap.size W w') (m3 : ∀ W : World, Below w.heap.size w W → Calls Tryd.prog 21 #[.agg #[.int .u8 k, .int .i64 wd, .int .i64 h, .int .u8 1, .int .i64 r]] W fun e w' => e = .returned (.tuple #[.agg #[.int .u8 k, .int .i64 wd, .int .i64 h, .int .u8 1, .int .i64 r], .int .i64 0]) ∧ Below W.heap.size W w') :
    Calls Tryd.prog 9 #[.agg #[.int .u8 k, .int .i64 wd, .int .i64 h, .int .u8 1, .int .i64 x]] w fun e w' => e = .returned (.bool true) ∧ Below w.heap.size w w' := by
  have M1 := Aside0.mk m1; have M2 := Aside0.mk m2; have M3 := Aside0.mk m3
  clear m1 m2 m3
  have hu0 := Tryd.underlying23
  go_enter Tryd.func9, Tryd.ntmps9
  go_wp2_with (first
    | (go_at_call 15; with_reducible refine (M1.out _ (by repeat (first | exact HB.out | exact Below.refl _ _ | apply below_alloc))).mono ?_; rintro e v1 ⟨rfl, hb⟩; have N_t := (Bx.new _ #[.int .u8 k, .int .i64 wd, .int .i64 h, .int .u8 1, .int .i64 x] 23).on hb; have NB := chain (below_alloc (Below.refl w.heap.size w) _) hb; clear hb; have HB := Aside0.mk NB; clear NB; have B_t := Aside0.mk N_t; have q_t := N_t.lt; have x_t0 := N_t.c 0 _ rfl; have x_t1 := N_t.c 1 _ rfl; have x_t2 := N_t.c 2 _ rfl; have x_t3 := N_t.c 3 _ rfl; have x_t4 := N_t.c 4 _ rfl; clear N_t)
    | (go_at_call 21; with_reducible refine (M2.out _ (by repeat (first | exact HB.out | exact Below.refl _ _ | apply below_alloc))).mono ?_; rintro e v2 ⟨rfl, hb⟩; have N_t := (B_t.out).on hb; have NB := chain HB.out hb; clear hb; clear HB; clear B_t q_t x_t0 x_t1 x_t2 x_t3 x_t4; have HB := Aside0.mk NB; clear NB; have B_t := Aside0.mk N_t; have q_t := N_t.lt; have x_t0 := N_t.c 0 _ rfl; have x_t1 := N_t.c 1 _ rfl; have x_t2 := N_t.c 2 _ rfl; have x_t3 := N_t.c 3 _ rfl; have x_t4 := N_t.c 4 _ rfl; clear N_t)
    | (go_at_call 21; with_reducible refine (M3.out _ (by repeat (first | exact HB.out | exact Below.refl _ _ | apply below_alloc))).mono ?_; rintro e v3 ⟨rfl, hb⟩; have N_t := ((B_t.out).alloc _).on hb; have N_c := (Bx.new _ #[.int .u8 k, .int .i64 wd, .int .i64 h, .int .u8 1, .int .i64 r] 23).on hb; have lt_t_c := q_t; have NB := chain (below_alloc HB.out _) hb; clear hb; clear HB; clear B_t q_t x_t0 x_t1 x_t2 x_t3 x_t4; have HB := Aside0.mk NB; clear NB; have B_t := Aside0.mk N_t; have q_t := N_t.lt; have x_t0 := N_t.c 0 _ rfl; have x_t1 := N_t.c 1 _ rfl; have x_t2 := N_t.c 2 _ rfl; have x_t3 := N_t.c 3 _ rfl; have x_t4 := N_t.c 4 _ rfl; clear N_t; have B_c := Aside0.mk N_c; have q_c := N_c.lt; have x_c0 := N_c.c 0 _ rfl; have x_c1 := N_c.c 1 _ rfl; have x_c2 := N_c.c 2 _ rfl; have x_c3 := N_c.c 3 _ rfl; have x_c4 := N_c.c 4 _ rfl; have z_ := fun o => (N_c.alloc o).fz 4; clear N_c))
  go_ret
  exact ⟨rfl, below_alloc (below_set HB.out (Nat.le_of_lt lt_t_c)) _⟩
set_option maxHeartbeats 4000000 in
set_option maxRecDepth 100000 in
theorem good2 (k wd h x r : Int) (r0 : ¬ r < 0) (r1 : ¬ r ≥ h) (nz : (h == 0) = false) (ez : Int.tmod (wrap64 (r - x)) h = 0) (w : World) (m1 : ∀ W : World, Below w.heap.size w W → Calls Tryd.prog 15 #[] W fun e w' => e = .returned (.bool true) ∧ Below W.heap.size W w') (m2 : ∀ W : World, Below w.heap.size w W → Calls Tryd.prog 21 #[.agg #[.int .u8 k, .int .i64 wd, .int .i64 h, .int .u8 2, .int .i64 x]] W fun e w' => e = .returned (.tuple #[.agg #[.int .u8 k, .int .i64 wd, .int .i64 h, .int .u8 2, .int .i64 r], .int .i64 0]) ∧ Below W.heap.size W w') (m3 : ∀ W : World, Below w.heap.size w W → Calls Tryd.prog 21 #[.agg #[.int .u8 k, .int .i64 wd, .int .i64 h, .int .u8 2, .int .i64 r]] W fun e w' => e = .returned (.tuple #[.agg #[.int .u8 k, .int .i64 wd, .int .i64 h, .int .u8 2, .int .i64 r], .int .i64 0]) ∧ Below W.heap.size W w') :
    Calls Tryd.prog 9 #[.agg #[.int .u8 k, .int .i64 wd, .int .i64 h, .int .u8 2, .int .i64 x]] w fun e w' => e = .returned (.bool true) ∧ Below w.heap.size w w' := by
  have M1 := Aside0.mk m1; have M2 := Aside0.mk m2; have M3 := Aside0.mk m3
  clear m1 m2 m3
  have hu0 := Tryd.underlying23
  go_enter Tryd.func9, Tryd.ntmps9
  go_wp2_with (first
    | (go_at_call 15; with_reducible refine (M1.out _ (by repeat (first | exact HB.out | exact Below.refl _ _ | apply below_alloc))).mono ?_; rintro e v1 ⟨rfl, hb⟩; have N_t := (Bx.new _ #[.int .u8 k, .int .i64 wd, .int .i64 h, .int .u8 2, .int .i64 x] 23).on hb; have NB := chain (below_alloc (Below.refl w.heap.size w) _) hb; clear hb; have HB := Aside0.mk NB; clear NB; have B_t := Aside0.mk N_t; have q_t := N_t.lt; have x_t0 := N_t.c 0 _ rfl; have x_t1 := N_t.c 1 _ rfl; have x_t2 := N_t.c 2 _ rfl; have x_t3 := N_t.c 3 _ rfl; have x_t4 := N_t.c 4 _ rfl; clear N_t)
    | (go_at_call 21; with_reducible refine (M2.out _ (by repeat (first | exact HB.out | exact Below.refl _ _ | apply below_alloc))).mono ?_; rintro e v2 ⟨rfl, hb⟩; have N_t := (B_t.out).on hb; have NB := chain HB.out hb; clear hb; clear HB; clear B_t q_t x_t0 x_t1 x_t2 x_t3 x_t4; have HB := Aside0.mk NB; clear NB; have B_t := Aside0.mk N_t; have q_t := N_t.lt; have x_t0 := N_t.c 0 _ rfl; have x_t1 := N_t.c 1 _ rfl; have x_t2 := N_t.c 2 _ rfl; have x_t3 := N_t.c 3 _ rfl; have x_t4 := N_t.c 4 _ rfl; clear N_t)
    | (go_at_call 21; with_reducible refine (M3.out _ (by repeat (first | exact HB.out | exact Below.refl _ _ | apply below_alloc))).mono ?_; rintro e v3 ⟨rfl, hb⟩; have N_t := ((B_t.out).alloc _).on hb; have N_c := (Bx.new _ #[.int .u8 k, .int .i64 wd, .int .i64 h, .int .u8 2, .int .i64 r] 23).on hb; have lt_t_c := q_t; have NB := chain (below_alloc HB.out _) hb; clear hb; clear HB; clear B_t q_t x_t0 x_t1 x_t2 x_t3 x_t4; have HB := Aside0.mk NB; clear NB; have B_t := Aside0.mk N_t; have q_t := N_t.lt; have x_t0 := N_t.c 0 _ rfl; have x_t1 := N_t.c 1 _ rfl; have x_t2 := N_t.c 2 _ rfl; have x_t3 := N_t.c 3 _ rfl; have x_t4 := N_t.c 4 _ rfl; clear N_t; have B_c := Aside0.mk N_c; have q_c := N_c.lt; have x_c0 := N_c.c 0 _ rfl; have x_c1 := N_c.c 1 _ rfl; have x_c2 := N_c.c 2 _ rfl; have x_c3 := N_c.c 3 _ rfl; have x_c4 := N_c.c 4 _ rfl; have z_ := fun o => (N_c.alloc o).fz 4; clear N_c))
  go_ret
  exact ⟨rfl, below_alloc (below_set HB.out (Nat.le_of_lt lt_t_c)) _⟩
/-- The least shift. -/
def rr (x n : Int) : Int := if x < 0 then x + n else x
theorem tmod_in (x n : Int) (h0 : -n < x) (h1 : x < n) : Int.tmod x n = x := by
  by_cases c : 0 ≤ x
  · exact Int.tmod_eq_of_lt c h1
  · obtain ⟨y, rfl⟩ : ∃ y, x = -y := ⟨-x, by omega⟩
    rw [Int.neg_tmod, Int.tmod_eq_of_lt (by omega) (by omega)]
theorem mod_in (x n : Int) (h0 : -n < x) (h1 : x < n) (hn : n ≤ 65536) : whole_Mod_int.f x n = some (rr x n, true) := by
  unfold whole_Mod_int.f rr
  rw [if_neg (by omega), if_neg (by omega), tmod_in x n h0 h1]
  by_cases c : x < 0
  · rw [if_pos c, if_pos c, show wrap64 (x + n) = x + n by unfold wrap64; omega]
  · rw [if_neg c, if_neg c]
theorem rr_in (x n : Int) (h0 : -n < x) (h1 : x < n) (hn : n ≤ 65536) : 0 ≤ rr x n ∧ rr x n < n ∧ (x ≠ 0 → rr x n ≠ 0) ∧ rr (rr x n) n = rr x n ∧ Int.tmod (wrap64 (rr x n - x)) n = 0 := by
  unfold rr
  by_cases c : x < 0
  · rw [if_pos c, if_neg (show ¬ x + n < 0 by omega), show wrap64 (x + n - x) = n by unfold wrap64; omega]
    exact ⟨by omega, by omega, by omega, rfl, Int.tmod_self⟩
  · rw [if_neg c, if_neg c, show wrap64 (x - x) = 0 by unfold wrap64; omega]
    exact ⟨by omega, by omega, fun h => h, rfl, Int.zero_tmod n⟩
theorem canon_bad (k w h u x : Int) (hc : checkR k w h u x ≠ 0) : topo_Canon.f 5 k w h u x = some (0, 0, 0, 0, 0, checkR k w h u x) := by
  unfold topo_Canon.f
  rw [prog_check k w h u x 0]
  simp only [Option.bind_some]
  rw [if_neg hc]
theorem canon_0 (k w h x : Int) (hO : OkT k w h 0 x) : topo_Canon.f 5 k w h 0 x = some (k, w, h, 0, x, 0) := by
  have hc := ok_check k w h 0 x hO
  unfold topo_Canon.f
  rw [prog_check k w h 0 x 0, hc]
  simp only [Option.bind_some, if_true]
theorem canon_1 (k w h x : Int) (hO : OkT k w h 1 x) : (-w < x ∧ x < w ∧ w ≤ 65536) ∧ topo_Canon.f 5 k w h 1 x = some (k, w, h, 1, rr x w, 0) ∧ OkT k w h 1 (rr x w) := by
  have hc := ok_check k w h 1 x hO
  obtain ⟨a1, a2, a3, a4, a5, a6, a7, a8, a9⟩ := hO
  have b : -w < x ∧ x < w := by omega
  have b0 : k = 2 ∧ x ≠ 0 ∧ w ≠ 0 ∧ h ≠ 0 ∨ k = 3 := by omega
  clear a9
  obtain ⟨r0, r1, r2, r3, r4⟩ := rr_in x w b.1 b.2 a4
  refine ⟨⟨b.1, b.2, a4⟩, ?_, ⟨a1, a2, a3, a4, a5, a6, a7, a8, .inr ⟨?_, .inl ⟨rfl, by omega, r1⟩⟩⟩⟩
  · unfold topo_Canon.f topo_turned.f
    rw [prog_check k w h 1 x 0, hc]
    simp only [Option.bind_some, if_true]
    rw [if_neg (by omega), if_neg (by omega)]
    simp only [Option.bind_some]
    rw [mod_in x w b.1 b.2 a4]
    rfl
  · rcases b0 with ⟨q1, q2, q3, q4⟩ | q
    · exact .inl ⟨q1, r2 q2, q3, q4⟩
    · exact .inr q
theorem canon_2 (k w h x : Int) (hO : OkT k w h 2 x) : (-h < x ∧ x < h ∧ h ≤ 65536) ∧ topo_Canon.f 5 k w h 2 x = some (k, w, h, 2, rr x h, 0) ∧ OkT k w h 2 (rr x h) := by
  have hc := ok_check k w h 2 x hO
  obtain ⟨a1, a2, a3, a4, a5, a6, a7, a8, a9⟩ := hO
  have b : -h < x ∧ x < h := by omega
  have b0 : k = 2 ∧ x ≠ 0 ∧ w ≠ 0 ∧ h ≠ 0 ∨ k = 3 := by omega
  clear a9
  obtain ⟨r0, r1, r2, r3, r4⟩ := rr_in x h b.1 b.2 a6
  refine ⟨⟨b.1, b.2, a6⟩, ?_, ⟨a1, a2, a3, a4, a5, a6, a7, a8, .inr ⟨?_, .inr ⟨rfl, by omega, r1⟩⟩⟩⟩
  · unfold topo_Canon.f topo_turned.f
    rw [prog_check k w h 2 x 0, hc]
    simp only [Option.bind_some, if_true]
    rw [if_neg (by omega)]
    rw [mod_in x h b.1 b.2 a6]
    rfl
  · rcases b0 with ⟨q1, q2, q3, q4⟩ | q
    · exact .inl ⟨q1, r2 q2, q3, q4⟩
    · exact .inr q
theorem law (k wd h u x : Int) (hk : (Lit.int .u8 k).wf = true) (hw : (Lit.int .i64 wd).wf = true) (hh : (Lit.int .i64 h).wf = true) (hu : (Lit.int .u8 u).wf = true) (hx : (Lit.int .i64 x).wf = true) (w : World) (hp : Pow w) :
    Calls Tryd.prog 9 #[.agg #[.int .u8 k, .int .i64 wd, .int .i64 h, .int .u8 u, .int .i64 x]] w fun e w' => e = .returned (.bool true) ∧ Below w.heap.size w w' := by
  have u0 : 0 ≤ u := by simp [Lit.wf, IntKind.min, IntKind.max, IntKind.signed, IntKind.bits] at hu; omega
  have m1 : ∀ W : World, Below w.heap.size w W → Calls Tryd.prog 15 #[] W fun e w' => e = .returned (.bool true) ∧ Below W.heap.size W w' := fun W hb => alive W (hp.on hb)
  by_cases hc : checkR k wd h u x = 0
  · have hO := okT k wd h u x u0 hc
    have hu3 : (u = 0 ∧ x = 0) ∨ u = 1 ∨ u = 2 := by
      obtain ⟨a1, a2, a3, a4, a5, a6, a7, a8, a9⟩ := hO
      rcases a9 with ⟨z, y, _⟩ | ⟨_, ⟨z, _⟩ | ⟨z, _⟩⟩
      · exact .inl ⟨z, y⟩
      · exact .inr (.inl z)
      · exact .inr (.inr z)
    rcases hu3 with ⟨rfl, rfl⟩ | rfl | rfl
    · exact good0 k wd h w m1 (fun W _ => topo_Canon.calls 5 k wd h 0 0 _ _ _ _ _ _ W (canon_0 k wd h 0 hO))
    · obtain ⟨⟨b1, b2, b3⟩, c1, c2⟩ := canon_1 k wd h x hO
      obtain ⟨_, c3, _⟩ := canon_1 k wd h (rr x wd) c2
      obtain ⟨r0, r1, _, r3, r4⟩ := rr_in x wd b1 b2 b3
      rw [r3] at c3
      exact good1 k wd h x (rr x wd) (by omega) (by omega) (beq_eq_false_iff_ne.mpr (by omega)) r4 w m1 (fun W _ => topo_Canon.calls 5 k wd h 1 x _ _ _ _ _ _ W c1) (fun W _ => topo_Canon.calls 5 k wd h 1 (rr x wd) _ _ _ _ _ _ W c3)
    · obtain ⟨⟨b1, b2, b3⟩, c1, c2⟩ := canon_2 k wd h x hO
      obtain ⟨_, c3, _⟩ := canon_2 k wd h (rr x h) c2
      obtain ⟨r0, r1, _, r3, r4⟩ := rr_in x h b1 b2 b3
      rw [r3] at c3
      exact good2 k wd h x (rr x h) (by omega) (by omega) (beq_eq_false_iff_ne.mpr (by omega)) r4 w m1 (fun W _ => topo_Canon.calls 5 k wd h 2 x _ _ _ _ _ _ W c1) (fun W _ => topo_Canon.calls 5 k wd h 2 (rr x h) _ _ _ _ _ _ W c3)
  · exact bad k wd h u x _ (bne_iff_ne.mpr hc) w m1 (fun W _ => topo_Canon.calls 5 k wd h u x _ _ _ _ _ _ W (canon_bad k wd h u x hc)) (fun W _ => topo_Check.calls 5 k wd h u x _ W (prog_check k wd h u x 0))
end Go.Proofs.YtmcidodpnhkdfaaDoor.CanonWalk
