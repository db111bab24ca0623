/- The machine side of TopoHome. -/
import Derived.Test.YtmcidodpnhkdfaaDoorAlive
import Derived.Test.YtmcidodpnhkdfaaDoorCount
namespace Go.Proofs.YtmcidodpnhkdfaaDoor.HomeWalk
open Go.RowKit Go.Proofs.YtmcidodpnhkdfaaDoorW.PrintWords Go.Proofs.YtmcidodpnhkdfaaDoorW.PrintLast Go.Proofs.YtmcidodpnhkdfaaDoor.Box Go.Proofs.YtmcidodpnhkdfaaDoor.Bx Go.Proofs.YtmcidodpnhkdfaaDoor.Text Go.Proofs.YtmcidodpnhkdfaaDoor.Alive Go.Proofs.YtmcidodpnhkdfaaDoor.PrintPlain Go.Proofs.YtmcidodpnhkdfaaDoor.PrintWalk Go.Proofs.YtmcidodpnhkdfaaDoor.CheckPlain Go.Proofs.YtmcidodpnhkdfaaDoor.HasWalk Go.Proofs.YtmcidodpnhkdfaaDoor.PT Go.Proofs.YtmcidodpnhkdfaaDoor.PC
set_option linter.unusedVariables false
set_option linter.unusedSimpArgs false
theorem w64_in {x : Int} (h0 : -9223372036854775808 ≤ x) (h1 : x < 9223372036854775808) : wrap64 x = x := by unfold wrap64; omega
/-- How many places from x on lie in a side. -/
def C (n x : Int) : Int := if x ≤ homeX n then n else if homeX n + n ≤ x then 0 else homeX n + n - x
theorem C_step (n x : Int) (h1 : 1 ≤ n) : C n x = (if withB x (homeX n) n = true then 1 else 0) + C n (x + 1) := by
  unfold C withB
  have : (n == 0) = false := beq_eq_false_iff_ne.mpr (by omega)
  rw [this, Bool.false_or]
  simp only [Bool.and_eq_true, decide_eq_true_eq]
  repeat' split
  all_goals omega
theorem C_end (n : Int) (h1 : 1 ≤ n) (h2 : n ≤ 40) : C n 22 = 0 ∧ C n (-21) = n := by
  unfold C homeX
  constructor
  · rw [if_neg (by omega), if_pos (by omega)]
  · rw [if_pos (by omega)]
theorem C_in (n x : Int) (h1 : 1 ≤ n) (h2 : n ≤ 40) : 0 ≤ C n x ∧ C n x ≤ n := by
  unfold C
  split
  · omega
  · split <;> omega
section
variable (k w h u s : Int)
theorem has_f (hc : checkR k w h u s = 0) (x y : Int) (x0 : -21 ≤ x) (x1 : x ≤ 21) (y0 : -21 ≤ y) (y1 : y ≤ 21) :
    topo_Has.f k w h u s x y = some (withB x (homeX w) w && withB y (homeX h) h, 0) := by
  unfold topo_Has.f hasB hasE
  have hf : far x y = false := decide_eq_false (by omega)
  rw [if_pos hc, if_pos hc, hf, if_neg (by simp), if_neg (by simp)]
theorem l1_at (hc : checkR k w h u s = 0) (w1 : 1 ≤ w) (w2 : w ≤ 40) (y : Int) (y0 : -21 ≤ y) (y1 : y ≤ 21) : ∀ (d q : Nat) (x acc : Int), x + (d : Int) = 22 → -21 ≤ x → 0 ≤ acc → acc + (d : Int) ≤ 100000 →
    vivariumlaw04_count.l1 (q + d + 1) 21 acc y x k w h u s = vivariumlaw04_count.l0 q 21 (acc + (if withB y (homeX h) h = true then C w x else 0)) (y + 1) k w h u s := by
  intro d
  induction d with
  | zero =>
    intro q x acc hx x0 a0 a1
    obtain rfl : x = 22 := by omega
    simp only [vivariumlaw04_count.l1]
    rw [if_neg (by omega), (C_end w w1 w2).1, w64_in (by omega) (by omega)]
    simp
  | succ d ih =>
    intro q x acc hx x0 a0 a1
    rw [show q + (d + 1) + 1 = (q + d + 1) + 1 by omega, vivariumlaw04_count.l1]
    rw [if_pos (by omega), has_f k w h u s hc x y x0 (by omega) y0 y1]
    simp only [Option.bind_some, if_true]
    rw [w64_in (x := x + 1) (by omega) (by omega), w64_in (x := acc + 1) (by omega) (by omega)]
    have st := C_step w x w1
    by_cases c1 : withB x (homeX w) w = true
    · rw [if_pos c1] at st
      by_cases c2 : withB y (homeX h) h = true
      · rw [c1, c2, Bool.and_self, if_pos rfl, if_pos rfl, ih q (x + 1) (acc + 1) (by omega) (by omega) (by omega) (by omega), c2, if_pos rfl, st]
        congr 1
        omega
      · rw [Bool.eq_false_iff.mpr c2, Bool.and_false, if_neg (by simp), if_neg (by simp), ih q (x + 1) acc (by omega) (by omega) a0 (by omega), if_neg c2]
    · rw [if_neg c1] at st
      rw [Bool.eq_false_iff.mpr c1, Bool.false_and, if_neg (by simp), ih q (x + 1) acc (by omega) (by omega) a0 (by omega), st, Int.zero_add]
end
set_option maxHeartbeats 4000000 in
set_option maxRecDepth 100000 in
theorem bad (k wd h u x : Int) (c : Int) (hc : (c != 0) = true) (w : World) (m1 : ∀ W : World, Below w.heap.size w W → Calls Tryd.prog 15 #[] W fun e w' => e = .returned (.bool true) ∧ Below W.heap.size W w') (m2 : ∀ W : World, Below w.heap.size w W → Calls Tryd.prog 16 #[.agg #[.int .u8 k, .int .i64 wd, .int .i64 h, .int .u8 u, .int .i64 x]] W fun e w' => e = .returned (.tuple #[.agg #[.int .i64 0, .int .i64 0, .int .i64 0, .int .i64 0], .int .i64 c]) ∧ Below W.heap.size W w') (m3 : ∀ W : World, Below w.heap.size w W → Calls Tryd.prog 12 #[.agg #[.int .u8 k, .int .i64 wd, .int .i64 h, .int .u8 u, .int .i64 x]] W fun e w' => e = .returned (.int .i64 c) ∧ Below W.heap.size W w') :
    Calls Tryd.prog 6 #[.agg #[.int .u8 k, .int .i64 wd, .int .i64 h, .int .u8 u, .int .i64 x]] w fun e w' => e = .returned (.bool true) ∧ Below w.heap.size w w' := by
  have M1 := Aside0.mk m1; have M2 := Aside0.mk m2; have M3 := Aside0.mk m3
  clear m1 m2 m3
  have hu0 := Tryd.underlying23
  have hu1 := Tryd.underlying34
  go_enter Tryd.func6, Tryd.ntmps6
  go_wp2_with (first
    | (go_at_call 15; with_reducible refine (M1.out _ (by repeat (first | exact HB.out | exact Below.refl _ _ | apply below_alloc))).mono ?_; rintro e v1 ⟨rfl, hb⟩; have N_t := (Bx.new _ #[.int .u8 k, .int .i64 wd, .int .i64 h, .int .u8 u, .int .i64 x] 23).on hb; have NB := chain (below_alloc (Below.refl w.heap.size w) _) hb; clear hb; have HB := Aside0.mk NB; clear NB; have B_t := Aside0.mk N_t; have q_t := N_t.lt; have x_t0 := N_t.c 0 _ rfl; have x_t1 := N_t.c 1 _ rfl; have x_t2 := N_t.c 2 _ rfl; have x_t3 := N_t.c 3 _ rfl; have x_t4 := N_t.c 4 _ rfl; clear N_t)
    | (go_at_call 16; with_reducible refine (M2.out _ (by repeat (first | exact HB.out | exact Below.refl _ _ | apply below_alloc))).mono ?_; rintro e v2 ⟨rfl, hb⟩; have N_t := (B_t.out).on hb; have NB := chain HB.out hb; clear hb; clear HB; clear B_t q_t x_t0 x_t1 x_t2 x_t3 x_t4; have HB := Aside0.mk NB; clear NB; have B_t := Aside0.mk N_t; have q_t := N_t.lt; have x_t0 := N_t.c 0 _ rfl; have x_t1 := N_t.c 1 _ rfl; have x_t2 := N_t.c 2 _ rfl; have x_t3 := N_t.c 3 _ rfl; have x_t4 := N_t.c 4 _ rfl; clear N_t)
    | (go_at_call 12; with_reducible refine (M3.out _ (by repeat (first | exact HB.out | exact Below.refl _ _ | apply below_alloc))).mono ?_; rintro e v3 ⟨rfl, hb⟩; have N_t := ((B_t.out).alloc _).on hb; have N_z := (Bx.new _ #[.int .i64 0, .int .i64 0, .int .i64 0, .int .i64 0] 34).on hb; have NB := chain (below_alloc HB.out _) hb; clear hb; clear HB; clear B_t q_t x_t0 x_t1 x_t2 x_t3 x_t4; have HB := Aside0.mk NB; clear NB; have B_t := Aside0.mk N_t; have q_t := N_t.lt; have x_t0 := N_t.c 0 _ rfl; have x_t1 := N_t.c 1 _ rfl; have x_t2 := N_t.c 2 _ rfl; have x_t3 := N_t.c 3 _ rfl; have x_t4 := N_t.c 4 _ rfl; clear N_t; have B_z := Aside0.mk N_z; have q_z := N_z.lt; have x_z0 := N_z.c 0 _ rfl; have x_z1 := N_z.c 1 _ rfl; have x_z2 := N_z.c 2 _ rfl; have x_z3 := N_z.c 3 _ rfl; clear N_z))
  go_ret
  exact ⟨rfl, by repeat (first | exact HB.out | apply below_alloc | apply pw_below_drewN)⟩
set_option maxHeartbeats 4000000 in
set_option maxRecDepth 100000 in
theorem s1 (k wd h u x hx hy rx ry : Int) (g1 : ¬ hx > 0) (g2 : ¬ hy > 0) (e1 : wrap64 (wrap64 (2 * hx) + wd) = rx) (e2 : wrap64 (wrap64 (2 * hy) + h) = ry) (r1 : ¬ rx < 0) (r2 : ¬ rx > 1) (r3 : ¬ ry < 0) (r4 : ¬ ry > 1) (q1 : wd < 1) (w : World) (m1 : ∀ W : World, Below w.heap.size w W → Calls Tryd.prog 15 #[] W fun e w' => e = .returned (.bool true) ∧ Below W.heap.size W w') (m2 : ∀ W : World, Below w.heap.size w W → Calls Tryd.prog 16 #[.agg #[.int .u8 k, .int .i64 wd, .int .i64 h, .int .u8 u, .int .i64 x]] W fun e w' => e = .returned (.tuple #[.agg #[.int .i64 hx, .int .i64 hy, .int .i64 wd, .int .i64 h], .int .i64 0]) ∧ Below W.heap.size W w') :
    Calls Tryd.prog 6 #[.agg #[.int .u8 k, .int .i64 wd, .int .i64 h, .int .u8 u, .int .i64 x]] w fun e w' => e = .returned (.bool true) ∧ Below w.heap.size w w' := by
  have M1 := Aside0.mk m1; have M2 := Aside0.mk m2
  clear m1 m2
  have hu0 := Tryd.underlying23
  have hu1 := Tryd.underlying34
  go_enter Tryd.func6, Tryd.ntmps6
  go_wp2_with (first
    | (go_at_call 15; with_reducible refine (M1.out _ (by repeat (first | exact HB.out | exact Below.refl _ _ | apply below_alloc))).mono ?_; rintro e v1 ⟨rfl, hb⟩; have N_t := (Bx.new _ #[.int .u8 k, .int .i64 wd, .int .i64 h, .int .u8 u, .int .i64 x] 23).on hb; have NB := chain (below_alloc (Below.refl w.heap.size w) _) hb; clear hb; have HB := Aside0.mk NB; clear NB; have B_t := Aside0.mk N_t; have q_t := N_t.lt; have x_t0 := N_t.c 0 _ rfl; have x_t1 := N_t.c 1 _ rfl; have x_t2 := N_t.c 2 _ rfl; have x_t3 := N_t.c 3 _ rfl; have x_t4 := N_t.c 4 _ rfl; clear N_t)
    | (go_at_call 16; with_reducible refine (M2.out _ (by repeat (first | exact HB.out | exact Below.refl _ _ | apply below_alloc))).mono ?_; rintro e v2 ⟨rfl, hb⟩; have N_t := (B_t.out).on hb; have NB := chain HB.out hb; clear hb; clear HB; clear B_t q_t x_t0 x_t1 x_t2 x_t3 x_t4; have HB := Aside0.mk NB; clear NB; have B_t := Aside0.mk N_t; have q_t := N_t.lt; have x_t0 := N_t.c 0 _ rfl; have x_t1 := N_t.c 1 _ rfl; have x_t2 := N_t.c 2 _ rfl; have x_t3 := N_t.c 3 _ rfl; have x_t4 := N_t.c 4 _ rfl; clear N_t))
  go_ret
  exact ⟨rfl, by repeat (first | exact HB.out | apply below_alloc | apply pw_below_drewN)⟩
set_option maxHeartbeats 4000000 in
set_option maxRecDepth 100000 in
theorem s2 (k wd h u x hx hy rx ry : Int) (g1 : ¬ hx > 0) (g2 : ¬ hy > 0) (e1 : wrap64 (wrap64 (2 * hx) + wd) = rx) (e2 : wrap64 (wrap64 (2 * hy) + h) = ry) (r1 : ¬ rx < 0) (r2 : ¬ rx > 1) (r3 : ¬ ry < 0) (r4 : ¬ ry > 1) (q1 : ¬ wd < 1) (q2 : h < 1) (w : World) (m1 : ∀ W : World, Below w.heap.size w W → Calls Tryd.prog 15 #[] W fun e w' => e = .returned (.bool true) ∧ Below W.heap.size W w') (m2 : ∀ W : World, Below w.heap.size w W → Calls Tryd.prog 16 #[.agg #[.int .u8 k, .int .i64 wd, .int .i64 h, .int .u8 u, .int .i64 x]] W fun e w' => e = .returned (.tuple #[.agg #[.int .i64 hx, .int .i64 hy, .int .i64 wd, .int .i64 h], .int .i64 0]) ∧ Below W.heap.size W w') :
    Calls Tryd.prog 6 #[.agg #[.int .u8 k, .int .i64 wd, .int .i64 h, .int .u8 u, .int .i64 x]] w fun e w' => e = .returned (.bool true) ∧ Below w.heap.size w w' := by
  have M1 := Aside0.mk m1; have M2 := Aside0.mk m2
  clear m1 m2
  have hu0 := Tryd.underlying23
  have hu1 := Tryd.underlying34
  go_enter Tryd.func6, Tryd.ntmps6
  go_wp2_with (first
    | (go_at_call 15; with_reducible refine (M1.out _ (by repeat (first | exact HB.out | exact Below.refl _ _ | apply below_alloc))).mono ?_; rintro e v1 ⟨rfl, hb⟩; have N_t := (Bx.new _ #[.int .u8 k, .int .i64 wd, .int .i64 h, .int .u8 u, .int .i64 x] 23).on hb; have NB := chain (below_alloc (Below.refl w.heap.size w) _) hb; clear hb; have HB := Aside0.mk NB; clear NB; have B_t := Aside0.mk N_t; have q_t := N_t.lt; have x_t0 := N_t.c 0 _ rfl; have x_t1 := N_t.c 1 _ rfl; have x_t2 := N_t.c 2 _ rfl; have x_t3 := N_t.c 3 _ rfl; have x_t4 := N_t.c 4 _ rfl; clear N_t)
    | (go_at_call 16; with_reducible refine (M2.out _ (by repeat (first | exact HB.out | exact Below.refl _ _ | apply below_alloc))).mono ?_; rintro e v2 ⟨rfl, hb⟩; have N_t := (B_t.out).on hb; have NB := chain HB.out hb; clear hb; clear HB; clear B_t q_t x_t0 x_t1 x_t2 x_t3 x_t4; have HB := Aside0.mk NB; clear NB; have B_t := Aside0.mk N_t; have q_t := N_t.lt; have x_t0 := N_t.c 0 _ rfl; have x_t1 := N_t.c 1 _ rfl; have x_t2 := N_t.c 2 _ rfl; have x_t3 := N_t.c 3 _ rfl; have x_t4 := N_t.c 4 _ rfl; clear N_t))
  go_ret
  exact ⟨rfl, by repeat (first | exact HB.out | apply below_alloc | apply pw_below_drewN)⟩
set_option maxHeartbeats 4000000 in
set_option maxRecDepth 100000 in
theorem s3 (k wd h u x hx hy rx ry : Int) (g1 : ¬ hx > 0) (g2 : ¬ hy > 0) (e1 : wrap64 (wrap64 (2 * hx) + wd) = rx) (e2 : wrap64 (wrap64 (2 * hy) + h) = ry) (r1 : ¬ rx < 0) (r2 : ¬ rx > 1) (r3 : ¬ ry < 0) (r4 : ¬ ry > 1) (q1 : ¬ wd < 1) (q2 : ¬ h < 1) (q3 : wd > 40) (w : World) (m1 : ∀ W : World, Below w.heap.size w W → Calls Tryd.prog 15 #[] W fun e w' => e = .returned (.bool true) ∧ Below W.heap.size W w') (m2 : ∀ W : World, Below w.heap.size w W → Calls Tryd.prog 16 #[.agg #[.int .u8 k, .int .i64 wd, .int .i64 h, .int .u8 u, .int .i64 x]] W fun e w' => e = .returned (.tuple #[.agg #[.int .i64 hx, .int .i64 hy, .int .i64 wd, .int .i64 h], .int .i64 0]) ∧ Below W.heap.size W w') :
    Calls Tryd.prog 6 #[.agg #[.int .u8 k, .int .i64 wd, .int .i64 h, .int .u8 u, .int .i64 x]] w fun e w' => e = .returned (.bool true) ∧ Below w.heap.size w w' := by
  have M1 := Aside0.mk m1; have M2 := Aside0.mk m2
  clear m1 m2
  have hu0 := Tryd.underlying23
  have hu1 := Tryd.underlying34
  go_enter Tryd.func6, Tryd.ntmps6
  go_wp2_with (first
    | (go_at_call 15; with_reducible refine (M1.out _ (by repeat (first | exact HB.out | exact Below.refl _ _ | apply below_alloc))).mono ?_; rintro e v1 ⟨rfl, hb⟩; have N_t := (Bx.new _ #[.int .u8 k, .int .i64 wd, .int .i64 h, .int .u8 u, .int .i64 x] 23).on hb; have NB := chain (below_alloc (Below.refl w.heap.size w) _) hb; clear hb; have HB := Aside0.mk NB; clear NB; have B_t := Aside0.mk N_t; have q_t := N_t.lt; have x_t0 := N_t.c 0 _ rfl; have x_t1 := N_t.c 1 _ rfl; have x_t2 := N_t.c 2 _ rfl; have x_t3 := N_t.c 3 _ rfl; have x_t4 := N_t.c 4 _ rfl; clear N_t)
    | (go_at_call 16; with_reducible refine (M2.out _ (by repeat (first | exact HB.out | exact Below.refl _ _ | apply below_alloc))).mono ?_; rintro e v2 ⟨rfl, hb⟩; have N_t := (B_t.out).on hb; have NB := chain HB.out hb; clear hb; clear HB; clear B_t q_t x_t0 x_t1 x_t2 x_t3 x_t4; have HB := Aside0.mk NB; clear NB; have B_t := Aside0.mk N_t; have q_t := N_t.lt; have x_t0 := N_t.c 0 _ rfl; have x_t1 := N_t.c 1 _ rfl; have x_t2 := N_t.c 2 _ rfl; have x_t3 := N_t.c 3 _ rfl; have x_t4 := N_t.c 4 _ rfl; clear N_t))
  go_ret
  exact ⟨rfl, by repeat (first | exact HB.out | apply below_alloc | apply pw_below_drewN)⟩
set_option maxHeartbeats 4000000 in
set_option maxRecDepth 100000 in
theorem s4 (k wd h u x hx hy rx ry : Int) (g1 : ¬ hx > 0) (g2 : ¬ hy > 0) (e1 : wrap64 (wrap64 (2 * hx) + wd) = rx) (e2 : wrap64 (wrap64 (2 * hy) + h) = ry) (r1 : ¬ rx < 0) (r2 : ¬ rx > 1) (r3 : ¬ ry < 0) (r4 : ¬ ry > 1) (q1 : ¬ wd < 1) (q2 : ¬ h < 1) (q3 : ¬ wd > 40) (q4 : h > 40) (w : World) (m1 : ∀ W : World, Below w.heap.size w W → Calls Tryd.prog 15 #[] W fun e w' => e = .returned (.bool true) ∧ Below W.heap.size W w') (m2 : ∀ W : World, Below w.heap.size w W → Calls Tryd.prog 16 #[.agg #[.int .u8 k, .int .i64 wd, .int .i64 h, .int .u8 u, .int .i64 x]] W fun e w' => e = .returned (.tuple #[.agg #[.int .i64 hx, .int .i64 hy, .int .i64 wd, .int .i64 h], .int .i64 0]) ∧ Below W.heap.size W w') :
    Calls Tryd.prog 6 #[.agg #[.int .u8 k, .int .i64 wd, .int .i64 h, .int .u8 u, .int .i64 x]] w fun e w' => e = .returned (.bool true) ∧ Below w.heap.size w w' := by
  have M1 := Aside0.mk m1; have M2 := Aside0.mk m2
  clear m1 m2
  have hu0 := Tryd.underlying23
  have hu1 := Tryd.underlying34
  go_enter Tryd.func6, Tryd.ntmps6
  go_wp2_with (first
    | (go_at_call 15; with_reducible refine (M1.out _ (by repeat (first | exact HB.out | exact Below.refl _ _ | apply below_alloc))).mono ?_; rintro e v1 ⟨rfl, hb⟩; have N_t := (Bx.new _ #[.int .u8 k, .int .i64 wd, .int .i64 h, .int .u8 u, .int .i64 x] 23).on hb; have NB := chain (below_alloc (Below.refl w.heap.size w) _) hb; clear hb; have HB := Aside0.mk NB; clear NB; have B_t := Aside0.mk N_t; have q_t := N_t.lt; have x_t0 := N_t.c 0 _ rfl; have x_t1 := N_t.c 1 _ rfl; have x_t2 := N_t.c 2 _ rfl; have x_t3 := N_t.c 3 _ rfl; have x_t4 := N_t.c 4 _ rfl; clear N_t)
    | (go_at_call 16; with_reducible refine (M2.out _ (by repeat (first | exact HB.out | exact Below.refl _ _ | apply below_alloc))).mono ?_; rintro e v2 ⟨rfl, hb⟩; have N_t := (B_t.out).on hb; have NB := chain HB.out hb; clear hb; clear HB; clear B_t q_t x_t0 x_t1 x_t2 x_t3 x_t4; have HB := Aside0.mk NB; clear NB; have B_t := Aside0.mk N_t; have q_t := N_t.lt; have x_t0 := N_t.c 0 _ rfl; have x_t1 := N_t.c 1 _ rfl; have x_t2 := N_t.c 2 _ rfl; have x_t3 := N_t.c 3 _ rfl; have x_t4 := N_t.c 4 _ rfl; clear N_t))
  go_ret
  exact ⟨rfl, by repeat (first | exact HB.out | apply below_alloc | apply pw_below_drewN)⟩
set_option maxHeartbeats 4000000 in
set_option maxRecDepth 100000 in
theorem good (k wd h u x hx hy rx ry : Int) (g1 : ¬ hx > 0) (g2 : ¬ hy > 0) (e1 : wrap64 (wrap64 (2 * hx) + wd) = rx) (e2 : wrap64 (wrap64 (2 * hy) + h) = ry) (r1 : ¬ rx < 0) (r2 : ¬ rx > 1) (r3 : ¬ ry < 0) (r4 : ¬ ry > 1) (q1 : ¬ wd < 1) (q2 : ¬ h < 1) (q3 : ¬ wd > 40) (q4 : ¬ h > 40) (w : World) (m1 : ∀ W : World, Below w.heap.size w W → Calls Tryd.prog 15 #[] W fun e w' => e = .returned (.bool true) ∧ Below W.heap.size W w') (m2 : ∀ W : World, Below w.heap.size w W → Calls Tryd.prog 16 #[.agg #[.int .u8 k, .int .i64 wd, .int .i64 h, .int .u8 u, .int .i64 x]] W fun e w' => e = .returned (.tuple #[.agg #[.int .i64 hx, .int .i64 hy, .int .i64 wd, .int .i64 h], .int .i64 0]) ∧ Below W.heap.size W w') (m3 : ∀ W : World, Below w.heap.size w W → Calls Tryd.prog 17 #[.agg #[.int .u8 k, .int .i64 wd, .int .i64 h, .int .u8 u, .int .i64 x], .int .i64 21] W fun e w' => e = .returned (.int .i64 (wrap64 (wd * h))) ∧ Below W.heap.size W w') :
    Calls Tryd.prog 6 #[.agg #[.int .u8 k, .int .i64 wd, .int .i64 h, .int .u8 u, .int .i64 x]] w fun e w' => e = .returned (.bool true) ∧ Below w.heap.size w w' := by
  have M1 := Aside0.mk m1; have M2 := Aside0.mk m2; have M3 := Aside0.mk m3
  clear m1 m2 m3
  have hu0 := Tryd.underlying23
  have hu1 := Tryd.underlying34
  go_enter Tryd.func6, Tryd.ntmps6
  go_wp2_with (first
    | (go_at_call 15; with_reducible refine (M1.out _ (by repeat (first | exact HB.out | exact Below.refl _ _ | apply below_alloc))).mono ?_; rintro e v1 ⟨rfl, hb⟩; have N_t := (Bx.new _ #[.int .u8 k, .int .i64 wd, .int .i64 h, .int .u8 u, .int .i64 x] 23).on hb; have NB := chain (below_alloc (Below.refl w.heap.size w) _) hb; clear hb; have HB := Aside0.mk NB; clear NB; have B_t := Aside0.mk N_t; have q_t := N_t.lt; have x_t0 := N_t.c 0 _ rfl; have x_t1 := N_t.c 1 _ rfl; have x_t2 := N_t.c 2 _ rfl; have x_t3 := N_t.c 3 _ rfl; have x_t4 := N_t.c 4 _ rfl; clear N_t)
    | (go_at_call 16; with_reducible refine (M2.out _ (by repeat (first | exact HB.out | exact Below.refl _ _ | apply below_alloc))).mono ?_; rintro e v2 ⟨rfl, hb⟩; have N_t := (B_t.out).on hb; have NB := chain HB.out hb; clear hb; clear HB; clear B_t q_t x_t0 x_t1 x_t2 x_t3 x_t4; have HB := Aside0.mk NB; clear NB; have B_t := Aside0.mk N_t; have q_t := N_t.lt; have x_t0 := N_t.c 0 _ rfl; have x_t1 := N_t.c 1 _ rfl; have x_t2 := N_t.c 2 _ rfl; have x_t3 := N_t.c 3 _ rfl; have x_t4 := N_t.c 4 _ rfl; clear N_t))
  refine start_ (n := 9) (S := fun w' => w'.cell? ⟨w.heap.size, 0, none⟩ = some (.int .u8 k) ∧ w'.cell? ⟨w.heap.size, 1, none⟩ = some (.int .i64 wd) ∧ w'.cell? ⟨w.heap.size, 2, none⟩ = some (.int .i64 h) ∧ w'.cell? ⟨w.heap.size, 3, none⟩ = some (.int .u8 u) ∧ w'.cell? ⟨w.heap.size, 4, none⟩ = some (.int .i64 x)) (ds := []) #[false, false, false, false, false, false, false, false, false] (by kernel_rfl) rfl rfl (let q := (B_t.out).alloc (.cells #[.int .i64 hx, .int .i64 hy, .int .i64 wd, .int .i64 h] 34); ⟨q.c 0 _ rfl, q.c 1 _ rfl, q.c 2 _ rfl, q.c 3 _ rfl, q.c 4 _ rfl⟩) (fun hHeld => ?_)
  have NB := Aside0.mk (below_drew1 (below_alloc HB.out (.cells #[.int .i64 hx, .int .i64 hy, .int .i64 wd, .int .i64 h] 34)))
  clear x_t0 x_t1 x_t2 x_t3 x_t4 q_t B_t HB
  generalize (v2.alloc (.cells #[.int .i64 hx, .int .i64 hy, .int .i64 wd, .int .i64 h] 34)).drew = wx at NB hHeld ⊢
  refine take_ (i := 0) (N := (some 106)) (v := ?_) (a' := ?_) #[true, false, false, false, false, false, false, false, false] rfl rfl (by kernel_rfl) (fun _ _ _ h => h) (Or.inl ⟨by rfl, ?_⟩) hHeld ?_ ?_
  rotate_left
  · rintro w' ⟨s0, s1, s2, s3, s4⟩
    go_simp
    with_reducible rfl
  rotate_left
  · simp only [Act.put, List.setIfInBounds_toArray, List.set_cons_zero, List.set_cons_succ, i64_w, i32_w]
    rfl
  refine pure_ (i := 2) (N := (some 108)) (v := ?_) (a' := ?_) #[true, false, true, false, false, false, false, false, false] rfl rfl (by kernel_rfl) (fun _ _ _ h => h) (Or.inl ⟨by rfl, ?_⟩) ?_ ?_
  rotate_left
  · intro w'
    go_simp
    with_reducible rfl
  rotate_left
  · simp only [Act.put, List.setIfInBounds_toArray, List.set_cons_zero, List.set_cons_succ, i64_w, i32_w]
    rfl
  refine take_ (i := 3) (N := (some 109)) (v := ?_) (a' := ?_) #[true, false, true, true, false, false, false, false, false] rfl rfl (by kernel_rfl) (fun _ _ _ h => h) (Or.inl ⟨by rfl, ?_⟩) hHeld ?_ ?_
  rotate_left
  · rintro w' ⟨s0, s1, s2, s3, s4⟩
    go_simp
    with_reducible rfl
  rotate_left
  · simp only [Act.put, List.setIfInBounds_toArray, List.set_cons_zero, List.set_cons_succ, i64_w, i32_w]
    rfl
  refine pure_ (i := 4) (N := (some 110)) (v := ?_) (a' := ?_) #[true, false, true, true, true, false, false, false, false] rfl rfl (by kernel_rfl) (fun _ _ _ h => h) (Or.inl ⟨by rfl, ?_⟩) ?_ ?_
  rotate_left
  · intro w'
    go_simp
    with_reducible rfl
  rotate_left
  · simp only [Act.put, List.setIfInBounds_toArray, List.set_cons_zero, List.set_cons_succ, i64_w, i32_w]
    rfl
  refine take_ (i := 5) (N := (some 111)) (v := ?_) (a' := ?_) #[true, false, true, true, true, true, false, false, false] rfl rfl (by kernel_rfl) (fun _ _ _ h => h) (Or.inl ⟨by rfl, ?_⟩) hHeld ?_ ?_
  rotate_left
  · rintro w' ⟨s0, s1, s2, s3, s4⟩
    go_simp
    with_reducible rfl
  rotate_left
  · simp only [Act.put, List.setIfInBounds_toArray, List.set_cons_zero, List.set_cons_succ, i64_w, i32_w]
    rfl
  refine pure_ (i := 6) (N := (some 112)) (v := ?_) (a' := ?_) #[true, false, true, true, true, true, true, false, false] rfl rfl (by kernel_rfl) (fun _ _ _ h => h) (Or.inl ⟨by rfl, ?_⟩) ?_ ?_
  rotate_left
  · intro w'
    go_simp
    with_reducible rfl
  rotate_left
  · simp only [Act.put, List.setIfInBounds_toArray, List.set_cons_zero, List.set_cons_succ, i64_w, i32_w]
    rfl
  refine one_ (i := 1) (N := (some 107)) #[true, true, true, true, true, true, true, false, false] rfl rfl (by kernel_rfl) (by decide) (fun K hK => ?_)
  refine goes_ Tryd.func17 (by kernel_rfl) rfl #[.agg #[.int .u8 k, .int .i64 wd, .int .i64 h, .int .u8 u, .int .i64 x], .int .i64 21] (by rfl) rfl rfl (by (try simp only [List.map_toArray, List.map_cons, List.map_nil]); first | done | rfl) ?_
  with_reducible refine (M3.out _ NB.out).mono ?_
  rintro en_ w' ⟨rfl, hb⟩
  refine ⟨_, rfl, ?_⟩
  have lt_ := World.block_lt_of_cell? _ _ hHeld.1
  refine hK.out _ _ ⟨(hb.cell (p := ⟨w.heap.size, 0, none⟩) lt_).trans hHeld.1, (hb.cell (p := ⟨w.heap.size, 1, none⟩) lt_).trans hHeld.2.1, (hb.cell (p := ⟨w.heap.size, 2, none⟩) lt_).trans hHeld.2.2.1, (hb.cell (p := ⟨w.heap.size, 3, none⟩) lt_).trans hHeld.2.2.2.1, (hb.cell (p := ⟨w.heap.size, 4, none⟩) lt_).trans hHeld.2.2.2.2⟩ (fun hHeld => ?_)
  clear hK K lt_
  have ND := Aside0.mk (chain NB.out hb)
  clear hb NB
  refine pure_ (i := 7) (N := (some 113)) (v := ?_) (a' := ?_) #[true, true, true, true, true, true, true, true, false] rfl rfl (by kernel_rfl) (fun _ _ _ h => h) (Or.inl ⟨by rfl, ?_⟩) ?_ ?_
  rotate_left
  · intro w'
    go_simp
    with_reducible rfl
  rotate_left
  · simp only [Act.put, List.setIfInBounds_toArray, List.set_cons_zero, List.set_cons_succ, i64_w, i32_w]
    rfl
  refine pure_ (i := 8) (N := (some 2)) (v := ?_) (a' := ?_) #[true, true, true, true, true, true, true, true, true] rfl rfl (by kernel_rfl) (fun _ _ _ h => h) (Or.inl ⟨by rfl, ?_⟩) ?_ ?_
  rotate_left
  · intro w'
    go_simp
    with_reducible rfl
  rotate_left
  · simp only [Act.put, List.setIfInBounds_toArray, List.set_cons_zero, List.set_cons_succ, i64_w, i32_w]
    rfl
  refine done_ (by kernel_rfl) ?_
  go_wp2
  go_ret
  exact ⟨rfl, ND.out⟩
theorem l0_at (k w h u s : Int) (hc : checkR k w h u s = 0) (w1 : 1 ≤ w) (w2 : w ≤ 40) (h1 : 1 ≤ h) (h2 : h ≤ 40) : ∀ (d q : Nat) (y acc : Int), y + (d : Int) = 22 → -21 ≤ y → 0 ≤ acc → acc + 40 * (d : Int) ≤ 90000 →
    vivariumlaw04_count.l0 (q + 45 * d + 1) 21 acc y k w h u s = some (acc + w * C h y) := by
  intro d
  induction d with
  | zero =>
    intro q y acc hy y0 a0 a1
    obtain rfl : y = 22 := by omega
    simp only [vivariumlaw04_count.l0]
    rw [if_neg (by omega), (C_end h h1 h2).1, Int.mul_zero, Int.add_zero]
  | succ d ih =>
    intro q y acc hy y0 a0 a1
    rw [show q + 45 * (d + 1) + 1 = (((q + 45 * d + 1) + 43 + 1) + 1) by omega]
    simp only [vivariumlaw04_count.l0]
    rw [if_pos (by omega), show wrap64 (-21) = -21 from w64_in (by omega) (by omega), l1_at k w h u s hc w1 w2 y y0 (by omega) 43 _ (-21) acc (by omega) (by omega) a0 (by omega), (C_end w w1 w2).2]
    have st := C_step h y h1
    by_cases c : withB y (homeX h) h = true
    · rw [if_pos c] at st ⊢
      rw [ih q (y + 1) (acc + w) (by omega) (by omega) (by omega) (by omega), st, Int.mul_add, Int.mul_one, Int.add_assoc]
    · rw [if_neg c] at st ⊢
      rw [Int.add_zero, ih q (y + 1) acc (by omega) (by omega) a0 (by omega), st, Int.zero_add]
theorem count_at (k w h u s : Int) (hc : checkR k w h u s = 0) (w1 : 1 ≤ w) (w2 : w ≤ 40) (h1 : 1 ≤ h) (h2 : h ≤ 40) : vivariumlaw04_count.f (45 * 43 + 1) k w h u s 21 = some (wrap64 (w * h)) := by
  unfold vivariumlaw04_count.f
  have := l0_at k w h u s hc w1 w2 h1 h2 43 0 (-21) 0 (by omega) (by omega) (by omega) (by omega)
  rw [(C_end h h1 h2).2, Int.zero_add] at this
  have m : w * h ≤ 40 * 40 := Int.mul_le_mul w2 h2 (by omega) (by omega)
  have m0 : 0 ≤ w * h := Int.mul_nonneg (by omega) (by omega)
  rw [w64_in (x := w * h) (by omega) (by omega), ← this, show wrap64 (-21) = -21 from w64_in (by omega) (by omega)]
theorem law (k wd h u x : Int) (hk : (Lit.int .u8 k).wf = true) (hw : (Lit.int .i64 wd).wf = true) (hh : (Lit.int .i64 h).wf = true) (hu : (Lit.int .u8 u).wf = true) (hx : (Lit.int .i64 x).wf = true) (w : World) (hp : Pow w) :
    Calls Tryd.prog 6 #[.agg #[.int .u8 k, .int .i64 wd, .int .i64 h, .int .u8 u, .int .i64 x]] w fun e w' => e = .returned (.bool true) ∧ Below w.heap.size w w' := by
  have m1 : ∀ W : World, Below w.heap.size w W → Calls Tryd.prog 15 #[] W fun e w' => e = .returned (.bool true) ∧ Below W.heap.size W w' := fun W hb => alive W (hp.on hb)
  have hH := home_at k wd h u x
  by_cases hc : checkR k wd h u x = 0
  · rw [if_pos hc] at hH
    obtain ⟨⟨a1, a2⟩, a3, a4⟩ := home_ok k wd h u x hc
    have m2 := fun (W : World) (_ : Below w.heap.size w W) => topo_Home.calls 5 k wd h u x _ _ _ _ _ W hH
    have g1 : ¬ homeX wd > 0 := by unfold homeX; omega
    have g2 : ¬ homeX h > 0 := by unfold homeX; omega
    have e1 : wrap64 (wrap64 (2 * homeX wd) + wd) = 2 * homeX wd + wd := by unfold homeX wrap64; omega
    have e2 : wrap64 (wrap64 (2 * homeX h) + h) = 2 * homeX h + h := by unfold homeX wrap64; omega
    have r1 : ¬ 2 * homeX wd + wd < 0 := by unfold homeX; omega
    have r2 : ¬ 2 * homeX wd + wd > 1 := by unfold homeX; omega
    have r3 : ¬ 2 * homeX h + h < 0 := by unfold homeX; omega
    have r4 : ¬ 2 * homeX h + h > 1 := by unfold homeX; omega
    by_cases q1 : wd < 1
    · exact s1 k wd h u x _ _ _ _ g1 g2 e1 e2 r1 r2 r3 r4 q1 w m1 m2
    by_cases q2 : h < 1
    · exact s2 k wd h u x _ _ _ _ g1 g2 e1 e2 r1 r2 r3 r4 q1 q2 w m1 m2
    by_cases q3 : wd > 40
    · exact s3 k wd h u x _ _ _ _ g1 g2 e1 e2 r1 r2 r3 r4 q1 q2 q3 w m1 m2
    by_cases q4 : h > 40
    · exact s4 k wd h u x _ _ _ _ g1 g2 e1 e2 r1 r2 r3 r4 q1 q2 q3 q4 w m1 m2
    · exact good k wd h u x _ _ _ _ g1 g2 e1 e2 r1 r2 r3 r4 q1 q2 q3 q4 w m1 m2 (fun W _ => vivariumlaw04_count.calls _ k wd h u x 21 _ W (count_at k wd h u x hc (by omega) (by omega) (by omega) (by omega)))
  · rw [if_neg hc] at hH
    exact bad k wd h u x _ (bne_iff_ne.mpr hc) w m1 (fun W _ => topo_Home.calls 5 k wd h u x _ _ _ _ _ W hH) (fun W _ => topo_Check.calls 5 k wd h u x _ W (prog_check k wd h u x 0))
end Go.Proofs.YtmcidodpnhkdfaaDoor.HomeWalk
