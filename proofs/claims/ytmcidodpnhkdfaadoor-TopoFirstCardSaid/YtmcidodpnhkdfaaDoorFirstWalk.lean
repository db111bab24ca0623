/- The machine side of TopoFirst. -/
import Derived.Test.YtmcidodpnhkdfaaDoorAlive
import Derived.Test.YtmcidodpnhkdfaaDoorFirstPlain
namespace Go.Proofs.YtmcidodpnhkdfaaDoor.FirstWalk
open Go.RowKit Go.Proofs.YtmcidodpnhkdfaaDoorW.PrintWords Go.Proofs.YtmcidodpnhkdfaaDoor.Box Go.Proofs.YtmcidodpnhkdfaaDoor.Bx Go.Proofs.YtmcidodpnhkdfaaDoor.Text Go.Proofs.YtmcidodpnhkdfaaDoor.ParseSpec Go.Proofs.YtmcidodpnhkdfaaDoor.Alive Go.Proofs.YtmcidodpnhkdfaaDoor.BackPlain Go.Proofs.YtmcidodpnhkdfaaDoor.FirstPlain
set_option linter.unusedVariables false
set_option linter.unusedSimpArgs false
theorem btN (s : ByteArray) (n : Nat) (i : Int) (hi : i.toNat = n) : ∀ h : n < s.size, ((s[n]'h).toNat : Int) = bt s i := by subst hi; exact bt_at s i
set_option maxHeartbeats 4000000 in
set_option maxRecDepth 100000 in
theorem a1 (s more : ByteArray) (k wd h u x a : Int) (w : World) (m1 : ∀ W : World, Below w.heap.size w W → Calls Tryd.prog 15 #[] W fun e w' => e = .returned (.bool true) ∧ Below W.heap.size W w') (m2 : ∀ W : World, Below w.heap.size w W → Calls Tryd.prog 14 #[.string s] W fun e w' => e = .returned (.tuple #[.agg #[.int .u8 k, .int .i64 wd, .int .i64 h, .int .u8 u, .int .i64 x], .int .i64 a, .int .i64 0]) ∧ Below W.heap.size W w') :
    Calls Tryd.prog 7 #[.string s, .string more] w fun e w' => e = .returned (.bool true) ∧ Below w.heap.size w w' := by
  have M1 := Aside0.mk m1; have M2 := Aside0.mk m2
  clear m1 m2
  have hu0 := Tryd.underlying23
  go_enter Tryd.func7, Tryd.ntmps7
  go_wp2_with (first
    | (go_at_call 15; with_reducible refine (M1.out _ (by repeat (first | exact HB.out | exact Below.refl _ _ | apply below_alloc))).mono ?_; rintro e v1 ⟨rfl, hb⟩; have NB := chain (Below.refl w.heap.size w) hb; clear hb; have HB := Aside0.mk NB; clear NB)
    | (go_at_call 14; with_reducible refine (M2.out _ (by repeat (first | exact HB.out | exact Below.refl _ _ | apply below_alloc))).mono ?_; rintro e v2 ⟨rfl, hb⟩; have NB := chain HB.out hb; clear hb; clear HB; have HB := Aside0.mk NB; clear NB))
  go_ret
  exact ⟨rfl, (below_alloc HB.out _)⟩
set_option maxHeartbeats 4000000 in
set_option maxRecDepth 100000 in
theorem a2 (s more : ByteArray) (a : Int) (w : World) (m1 : ∀ W : World, Below w.heap.size w W → Calls Tryd.prog 15 #[] W fun e w' => e = .returned (.bool true) ∧ Below W.heap.size W w') (m2 : ∀ W : World, Below w.heap.size w W → Calls Tryd.prog 14 #[.string s] W fun e w' => e = .returned (.tuple #[.agg #[.int .u8 0, .int .i64 0, .int .i64 0, .int .u8 0, .int .i64 0], .int .i64 a, .int .i64 3]) ∧ Below W.heap.size W w') :
    Calls Tryd.prog 7 #[.string s, .string more] w fun e w' => e = .returned (.bool true) ∧ Below w.heap.size w w' := by
  have M1 := Aside0.mk m1; have M2 := Aside0.mk m2
  clear m1 m2
  have hu0 := Tryd.underlying23
  go_enter Tryd.func7, Tryd.ntmps7
  go_wp2_with (first
    | (go_at_call 15; with_reducible refine (M1.out _ (by repeat (first | exact HB.out | exact Below.refl _ _ | apply below_alloc))).mono ?_; rintro e v1 ⟨rfl, hb⟩; have NB := chain (Below.refl w.heap.size w) hb; clear hb; have HB := Aside0.mk NB; clear NB)
    | (go_at_call 14; with_reducible refine (M2.out _ (by repeat (first | exact HB.out | exact Below.refl _ _ | apply below_alloc))).mono ?_; rintro e v2 ⟨rfl, hb⟩; have NB := chain HB.out hb; clear hb; clear HB; have HB := Aside0.mk NB; clear NB))
  go_ret
  exact ⟨rfl, (below_alloc HB.out _)⟩
set_option maxHeartbeats 4000000 in
set_option maxRecDepth 100000 in
theorem a3 (s more : ByteArray) (a : Int) (er : Int) (e0 : (er == 0) = false) (e3 : (er == 3) = false) (ha : a ≥ (s.size : Int)) (w : World) (m1 : ∀ W : World, Below w.heap.size w W → Calls Tryd.prog 15 #[] W fun e w' => e = .returned (.bool true) ∧ Below W.heap.size W w') (m2 : ∀ W : World, Below w.heap.size w W → Calls Tryd.prog 14 #[.string s] W fun e w' => e = .returned (.tuple #[.agg #[.int .u8 0, .int .i64 0, .int .i64 0, .int .u8 0, .int .i64 0], .int .i64 a, .int .i64 er]) ∧ Below W.heap.size W w') :
    Calls Tryd.prog 7 #[.string s, .string more] w fun e w' => e = .returned (.bool true) ∧ Below w.heap.size w w' := by
  have M1 := Aside0.mk m1; have M2 := Aside0.mk m2
  clear m1 m2
  have hu0 := Tryd.underlying23
  go_enter Tryd.func7, Tryd.ntmps7
  go_wp2_with (first
    | (go_at_call 15; with_reducible refine (M1.out _ (by repeat (first | exact HB.out | exact Below.refl _ _ | apply below_alloc))).mono ?_; rintro e v1 ⟨rfl, hb⟩; have NB := chain (Below.refl w.heap.size w) hb; clear hb; have HB := Aside0.mk NB; clear NB)
    | (go_at_call 14; with_reducible refine (M2.out _ (by repeat (first | exact HB.out | exact Below.refl _ _ | apply below_alloc))).mono ?_; rintro e v2 ⟨rfl, hb⟩; have NB := chain HB.out hb; clear hb; clear HB; have HB := Aside0.mk NB; clear NB))
  go_ret
  exact ⟨rfl, (below_alloc HB.out _)⟩
set_option maxHeartbeats 4000000 in
set_option maxRecDepth 100000 in
theorem a4 (s more : ByteArray) (a : Int) (er : Int) (e0 : (er == 0) = false) (e3 : (er == 3) = false) (ha : ¬ a ≥ (s.size : Int)) (hm : (more.size : Int) > 1000000) (w : World) (m1 : ∀ W : World, Below w.heap.size w W → Calls Tryd.prog 15 #[] W fun e w' => e = .returned (.bool true) ∧ Below W.heap.size W w') (m2 : ∀ W : World, Below w.heap.size w W → Calls Tryd.prog 14 #[.string s] W fun e w' => e = .returned (.tuple #[.agg #[.int .u8 0, .int .i64 0, .int .i64 0, .int .u8 0, .int .i64 0], .int .i64 a, .int .i64 er]) ∧ Below W.heap.size W w') :
    Calls Tryd.prog 7 #[.string s, .string more] w fun e w' => e = .returned (.bool true) ∧ Below w.heap.size w w' := by
  have M1 := Aside0.mk m1; have M2 := Aside0.mk m2
  clear m1 m2
  have hu0 := Tryd.underlying23
  go_enter Tryd.func7, Tryd.ntmps7
  go_wp2_with (first
    | (go_at_call 15; with_reducible refine (M1.out _ (by repeat (first | exact HB.out | exact Below.refl _ _ | apply below_alloc))).mono ?_; rintro e v1 ⟨rfl, hb⟩; have NB := chain (Below.refl w.heap.size w) hb; clear hb; have HB := Aside0.mk NB; clear NB)
    | (go_at_call 14; with_reducible refine (M2.out _ (by repeat (first | exact HB.out | exact Below.refl _ _ | apply below_alloc))).mono ?_; rintro e v2 ⟨rfl, hb⟩; have NB := chain HB.out hb; clear hb; clear HB; have HB := Aside0.mk NB; clear NB))
  go_ret
  exact ⟨rfl, (below_alloc HB.out _)⟩
set_option maxHeartbeats 4000000 in
set_option maxRecDepth 100000 in
theorem a5 (s more : ByteArray) (a : Int) (er : Int) (e0 : (er == 0) = false) (e3 : (er == 3) = false) (ha : ¬ a ≥ (s.size : Int)) (hm : ¬ (more.size : Int) > 1000000) (hs : (s.size : Int) > 40000) (w : World) (m1 : ∀ W : World, Below w.heap.size w W → Calls Tryd.prog 15 #[] W fun e w' => e = .returned (.bool true) ∧ Below W.heap.size W w') (m2 : ∀ W : World, Below w.heap.size w W → Calls Tryd.prog 14 #[.string s] W fun e w' => e = .returned (.tuple #[.agg #[.int .u8 0, .int .i64 0, .int .i64 0, .int .u8 0, .int .i64 0], .int .i64 a, .int .i64 er]) ∧ Below W.heap.size W w') :
    Calls Tryd.prog 7 #[.string s, .string more] w fun e w' => e = .returned (.bool true) ∧ Below w.heap.size w w' := by
  have M1 := Aside0.mk m1; have M2 := Aside0.mk m2
  clear m1 m2
  have hu0 := Tryd.underlying23
  go_enter Tryd.func7, Tryd.ntmps7
  go_wp2_with (first
    | (go_at_call 15; with_reducible refine (M1.out _ (by repeat (first | exact HB.out | exact Below.refl _ _ | apply below_alloc))).mono ?_; rintro e v1 ⟨rfl, hb⟩; have NB := chain (Below.refl w.heap.size w) hb; clear hb; have HB := Aside0.mk NB; clear NB)
    | (go_at_call 14; with_reducible refine (M2.out _ (by repeat (first | exact HB.out | exact Below.refl _ _ | apply below_alloc))).mono ?_; rintro e v2 ⟨rfl, hb⟩; have NB := chain HB.out hb; clear hb; clear HB; have HB := Aside0.mk NB; clear NB))
  go_ret
  exact ⟨rfl, (below_alloc HB.out _)⟩
set_option maxHeartbeats 4000000 in
set_option maxRecDepth 100000 in
theorem b44 (s more : ByteArray) (n : Nat) (hn : n < s.size) (ha : ¬ (n : Int) ≥ (s.size : Int)) (hm : ¬ (more.size : Int) > 1000000) (hs : ¬ (s.size : Int) > 40000) (w : World) (m1 : ∀ W : World, Below w.heap.size w W → Calls Tryd.prog 15 #[] W fun e w' => e = .returned (.bool true) ∧ Below W.heap.size W w') (m2 : ∀ W : World, Below w.heap.size w W → Calls Tryd.prog 14 #[.string s] W fun e w' => e = .returned (.tuple #[.agg #[.int .u8 0, .int .i64 0, .int .i64 0, .int .u8 0, .int .i64 0], .int .i64 (n : Int), .int .i64 44]) ∧ Below W.heap.size W w') :
    Calls Tryd.prog 7 #[.string s, .string more] w fun e w' => e = .returned (.bool true) ∧ Below w.heap.size w w' := by
  have M1 := Aside0.mk m1; have M2 := Aside0.mk m2
  clear m1 m2
  have hu0 := Tryd.underlying23
  go_enter Tryd.func7, Tryd.ntmps7
  go_wp2_with (first
    | (go_at_call 15; with_reducible refine (M1.out _ (by repeat (first | exact HB.out | exact Below.refl _ _ | apply below_alloc))).mono ?_; rintro e v1 ⟨rfl, hb⟩; have NB := chain (Below.refl w.heap.size w) hb; clear hb; have HB := Aside0.mk NB; clear NB)
    | (go_at_call 14; with_reducible refine (M2.out _ (by repeat (first | exact HB.out | exact Below.refl _ _ | apply below_alloc))).mono ?_; rintro e v2 ⟨rfl, hb⟩; have NB := chain HB.out hb; clear hb; clear HB; have HB := Aside0.mk NB; clear NB))
  go_ret
  exact ⟨rfl, (below_alloc HB.out _)⟩
set_option maxHeartbeats 4000000 in
set_option maxRecDepth 100000 in
theorem b42 (s more : ByteArray) (n : Nat) (hn : n < s.size) (ha : ¬ (n : Int) ≥ (s.size : Int)) (hm : ¬ (more.size : Int) > 1000000) (hs : ¬ (s.size : Int) > 40000) (w : World) (m1 : ∀ W : World, Below w.heap.size w W → Calls Tryd.prog 15 #[] W fun e w' => e = .returned (.bool true) ∧ Below W.heap.size W w') (m2 : ∀ W : World, Below w.heap.size w W → Calls Tryd.prog 14 #[.string s] W fun e w' => e = .returned (.tuple #[.agg #[.int .u8 0, .int .i64 0, .int .i64 0, .int .u8 0, .int .i64 0], .int .i64 (n : Int), .int .i64 42]) ∧ Below W.heap.size W w') :
    Calls Tryd.prog 7 #[.string s, .string more] w fun e w' => e = .returned (.bool true) ∧ Below w.heap.size w w' := by
  have M1 := Aside0.mk m1; have M2 := Aside0.mk m2
  clear m1 m2
  have hu0 := Tryd.underlying23
  go_enter Tryd.func7, Tryd.ntmps7
  go_wp2_with (first
    | (go_at_call 15; with_reducible refine (M1.out _ (by repeat (first | exact HB.out | exact Below.refl _ _ | apply below_alloc))).mono ?_; rintro e v1 ⟨rfl, hb⟩; have NB := chain (Below.refl w.heap.size w) hb; clear hb; have HB := Aside0.mk NB; clear NB)
    | (go_at_call 14; with_reducible refine (M2.out _ (by repeat (first | exact HB.out | exact Below.refl _ _ | apply below_alloc))).mono ?_; rintro e v2 ⟨rfl, hb⟩; have NB := chain HB.out hb; clear hb; clear HB; have HB := Aside0.mk NB; clear NB))
  go_ret
  exact ⟨rfl, (below_alloc HB.out _)⟩
set_option maxHeartbeats 4000000 in
set_option maxRecDepth 100000 in
theorem b41 (s more : ByteArray) (n : Nat) (hn : n < s.size) (ha : ¬ (n : Int) ≥ (s.size : Int)) (hm : ¬ (more.size : Int) > 1000000) (hs : ¬ (s.size : Int) > 40000) (h1 : bt s (n : Int) ≥ 48) (h2 : bt s (n : Int) ≤ 57) (w : World) (m1 : ∀ W : World, Below w.heap.size w W → Calls Tryd.prog 15 #[] W fun e w' => e = .returned (.bool true) ∧ Below W.heap.size W w') (m2 : ∀ W : World, Below w.heap.size w W → Calls Tryd.prog 14 #[.string s] W fun e w' => e = .returned (.tuple #[.agg #[.int .u8 0, .int .i64 0, .int .i64 0, .int .u8 0, .int .i64 0], .int .i64 (n : Int), .int .i64 41]) ∧ Below W.heap.size W w') :
    Calls Tryd.prog 7 #[.string s, .string more] w fun e w' => e = .returned (.bool true) ∧ Below w.heap.size w w' := by
  have M1 := Aside0.mk m1; have M2 := Aside0.mk m2
  clear m1 m2
  have p2 : ((n : Int) < (s.size : Int)) = True := eq_true (by omega)
  have z2 : ((0 : Int) ≤ (n : Int)) = True := eq_true (by omega)
  have b2 : decide ((n : Int) < (s.size : Int)) = true := decide_eq_true (by omega)
  have x2 : ∀ h : n < s.size, ((s[n]'h).toNat : Int) = bt s (n : Int) := bt_at s (n : Int)
  have hu0 := Tryd.underlying23
  go_enter Tryd.func7, Tryd.ntmps7
  go_wp2_with (first
    | (go_at_call 15; with_reducible refine (M1.out _ (by repeat (first | exact HB.out | exact Below.refl _ _ | apply below_alloc))).mono ?_; rintro e v1 ⟨rfl, hb⟩; have NB := chain (Below.refl w.heap.size w) hb; clear hb; have HB := Aside0.mk NB; clear NB)
    | (go_at_call 14; with_reducible refine (M2.out _ (by repeat (first | exact HB.out | exact Below.refl _ _ | apply below_alloc))).mono ?_; rintro e v2 ⟨rfl, hb⟩; have NB := chain HB.out hb; clear hb; clear HB; have HB := Aside0.mk NB; clear NB))
  go_ret
  exact ⟨rfl, (below_alloc HB.out _)⟩
set_option maxHeartbeats 4000000 in
set_option maxRecDepth 100000 in
theorem c40 (s more : ByteArray) (n : Nat) (hn : n < s.size) (ha : ¬ (n : Int) ≥ (s.size : Int)) (hm : ¬ (more.size : Int) > 1000000) (hs : ¬ (s.size : Int) > 40000) (w : World) (m1 : ∀ W : World, Below w.heap.size w W → Calls Tryd.prog 15 #[] W fun e w' => e = .returned (.bool true) ∧ Below W.heap.size W w') (m2 : ∀ W : World, Below w.heap.size w W → Calls Tryd.prog 14 #[.string s] W fun e w' => e = .returned (.tuple #[.agg #[.int .u8 0, .int .i64 0, .int .i64 0, .int .u8 0, .int .i64 0], .int .i64 (n : Int), .int .i64 40]) ∧ Below W.heap.size W w') (m3 : ∀ W : World, Below w.heap.size w W → Calls Tryd.prog 14 #[.string (s.extract 0 (n + 1) ++ more)] W fun e w' => e = .returned (.tuple #[.agg #[.int .u8 0, .int .i64 0, .int .i64 0, .int .u8 0, .int .i64 0], .int .i64 (n : Int), .int .i64 40]) ∧ Below W.heap.size W w') :
    Calls Tryd.prog 7 #[.string s, .string more] w fun e w' => e = .returned (.bool true) ∧ Below w.heap.size w w' := by
  have M1 := Aside0.mk m1; have M2 := Aside0.mk m2; have M3 := Aside0.mk m3
  clear m1 m2 m3
  have p2 : ((n : Int) < (s.size : Int)) = True := eq_true (by omega)
  have z2 : ((0 : Int) ≤ (n : Int)) = True := eq_true (by omega)
  have b2 : decide ((n : Int) < (s.size : Int)) = true := decide_eq_true (by omega)
  have x2 : ∀ h : n < s.size, ((s[n]'h).toNat : Int) = bt s (n : Int) := bt_at s (n : Int)
  have hu0 := Tryd.underlying23
  go_enter Tryd.func7, Tryd.ntmps7
  go_wp2_with (first
    | (go_at_call 15; with_reducible refine (M1.out _ (by repeat (first | exact HB.out | exact Below.refl _ _ | apply below_alloc))).mono ?_; rintro e v1 ⟨rfl, hb⟩; have NB := chain (Below.refl w.heap.size w) hb; clear hb; have HB := Aside0.mk NB; clear NB)
    | (go_at_call 14; with_reducible refine (M2.out _ (by repeat (first | exact HB.out | exact Below.refl _ _ | apply below_alloc))).mono ?_; rintro e v2 ⟨rfl, hb⟩; have NB := chain HB.out hb; clear hb; clear HB; have HB := Aside0.mk NB; clear NB)
    | (go_at_call 14; with_reducible refine (M3.out _ (by repeat (first | exact HB.out | exact Below.refl _ _ | apply below_alloc))).mono ?_; rintro e v3 ⟨rfl, hb⟩; have N_t := (Bx.new _ #[.int .u8 0, .int .i64 0, .int .i64 0, .int .u8 0, .int .i64 0] 23).on hb; have NB := chain (below_alloc HB.out _) hb; clear hb; clear HB; have HB := Aside0.mk NB; clear NB; have B_t := Aside0.mk N_t; have q_t := N_t.lt; have x_t0 := N_t.c 0 _ rfl; have x_t1 := N_t.c 1 _ rfl; have x_t2 := N_t.c 2 _ rfl; have x_t3 := N_t.c 3 _ rfl; have x_t4 := N_t.c 4 _ rfl; clear N_t))
  go_ret
  exact ⟨rfl, (below_alloc HB.out _)⟩
set_option maxHeartbeats 4000000 in
set_option maxRecDepth 100000 in
theorem c45 (s more : ByteArray) (n : Nat) (hn : n < s.size) (ha : ¬ (n : Int) ≥ (s.size : Int)) (hm : ¬ (more.size : Int) > 1000000) (hs : ¬ (s.size : Int) > 40000) (w : World) (m1 : ∀ W : World, Below w.heap.size w W → Calls Tryd.prog 15 #[] W fun e w' => e = .returned (.bool true) ∧ Below W.heap.size W w') (m2 : ∀ W : World, Below w.heap.size w W → Calls Tryd.prog 14 #[.string s] W fun e w' => e = .returned (.tuple #[.agg #[.int .u8 0, .int .i64 0, .int .i64 0, .int .u8 0, .int .i64 0], .int .i64 (n : Int), .int .i64 45]) ∧ Below W.heap.size W w') (m3 : ∀ W : World, Below w.heap.size w W → Calls Tryd.prog 14 #[.string (s.extract 0 (n + 1) ++ more)] W fun e w' => e = .returned (.tuple #[.agg #[.int .u8 0, .int .i64 0, .int .i64 0, .int .u8 0, .int .i64 0], .int .i64 (n : Int), .int .i64 45]) ∧ Below W.heap.size W w') :
    Calls Tryd.prog 7 #[.string s, .string more] w fun e w' => e = .returned (.bool true) ∧ Below w.heap.size w w' := by
  have M1 := Aside0.mk m1; have M2 := Aside0.mk m2; have M3 := Aside0.mk m3
  clear m1 m2 m3
  have p2 : ((n : Int) < (s.size : Int)) = True := eq_true (by omega)
  have z2 : ((0 : Int) ≤ (n : Int)) = True := eq_true (by omega)
  have b2 : decide ((n : Int) < (s.size : Int)) = true := decide_eq_true (by omega)
  have x2 : ∀ h : n < s.size, ((s[n]'h).toNat : Int) = bt s (n : Int) := bt_at s (n : Int)
  have hu0 := Tryd.underlying23
  go_enter Tryd.func7, Tryd.ntmps7
  go_wp2_with (first
    | (go_at_call 15; with_reducible refine (M1.out _ (by repeat (first | exact HB.out | exact Below.refl _ _ | apply below_alloc))).mono ?_; rintro e v1 ⟨rfl, hb⟩; have NB := chain (Below.refl w.heap.size w) hb; clear hb; have HB := Aside0.mk NB; clear NB)
    | (go_at_call 14; with_reducible refine (M2.out _ (by repeat (first | exact HB.out | exact Below.refl _ _ | apply below_alloc))).mono ?_; rintro e v2 ⟨rfl, hb⟩; have NB := chain HB.out hb; clear hb; clear HB; have HB := Aside0.mk NB; clear NB)
    | (go_at_call 14; with_reducible refine (M3.out _ (by repeat (first | exact HB.out | exact Below.refl _ _ | apply below_alloc))).mono ?_; rintro e v3 ⟨rfl, hb⟩; have N_t := (Bx.new _ #[.int .u8 0, .int .i64 0, .int .i64 0, .int .u8 0, .int .i64 0] 23).on hb; have NB := chain (below_alloc HB.out _) hb; clear hb; clear HB; have HB := Aside0.mk NB; clear NB; have B_t := Aside0.mk N_t; have q_t := N_t.lt; have x_t0 := N_t.c 0 _ rfl; have x_t1 := N_t.c 1 _ rfl; have x_t2 := N_t.c 2 _ rfl; have x_t3 := N_t.c 3 _ rfl; have x_t4 := N_t.c 4 _ rfl; clear N_t))
  go_ret
  exact ⟨rfl, (below_alloc HB.out _)⟩
set_option maxHeartbeats 4000000 in
set_option maxRecDepth 100000 in
theorem c41a (s more : ByteArray) (n : Nat) (hn : n < s.size) (ha : ¬ (n : Int) ≥ (s.size : Int)) (hm : ¬ (more.size : Int) > 1000000) (hs : ¬ (s.size : Int) > 40000) (h1 : ¬ bt s (n : Int) ≥ 48) (w : World) (m1 : ∀ W : World, Below w.heap.size w W → Calls Tryd.prog 15 #[] W fun e w' => e = .returned (.bool true) ∧ Below W.heap.size W w') (m2 : ∀ W : World, Below w.heap.size w W → Calls Tryd.prog 14 #[.string s] W fun e w' => e = .returned (.tuple #[.agg #[.int .u8 0, .int .i64 0, .int .i64 0, .int .u8 0, .int .i64 0], .int .i64 (n : Int), .int .i64 41]) ∧ Below W.heap.size W w') (m3 : ∀ W : World, Below w.heap.size w W → Calls Tryd.prog 14 #[.string (s.extract 0 (n + 1) ++ more)] W fun e w' => e = .returned (.tuple #[.agg #[.int .u8 0, .int .i64 0, .int .i64 0, .int .u8 0, .int .i64 0], .int .i64 (n : Int), .int .i64 41]) ∧ Below W.heap.size W w') :
    Calls Tryd.prog 7 #[.string s, .string more] w fun e w' => e = .returned (.bool true) ∧ Below w.heap.size w w' := by
  have M1 := Aside0.mk m1; have M2 := Aside0.mk m2; have M3 := Aside0.mk m3
  clear m1 m2 m3
  have p2 : ((n : Int) < (s.size : Int)) = True := eq_true (by omega)
  have z2 : ((0 : Int) ≤ (n : Int)) = True := eq_true (by omega)
  have b2 : decide ((n : Int) < (s.size : Int)) = true := decide_eq_true (by omega)
  have x2 : ∀ h : n < s.size, ((s[n]'h).toNat : Int) = bt s (n : Int) := bt_at s (n : Int)
  have hu0 := Tryd.underlying23
  go_enter Tryd.func7, Tryd.ntmps7
  go_wp2_with (first
    | (go_at_call 15; with_reducible refine (M1.out _ (by repeat (first | exact HB.out | exact Below.refl _ _ | apply below_alloc))).mono ?_; rintro e v1 ⟨rfl, hb⟩; have NB := chain (Below.refl w.heap.size w) hb; clear hb; have HB := Aside0.mk NB; clear NB)
    | (go_at_call 14; with_reducible refine (M2.out _ (by repeat (first | exact HB.out | exact Below.refl _ _ | apply below_alloc))).mono ?_; rintro e v2 ⟨rfl, hb⟩; have NB := chain HB.out hb; clear hb; clear HB; have HB := Aside0.mk NB; clear NB)
    | (go_at_call 14; with_reducible refine (M3.out _ (by repeat (first | exact HB.out | exact Below.refl _ _ | apply below_alloc))).mono ?_; rintro e v3 ⟨rfl, hb⟩; have N_t := (Bx.new _ #[.int .u8 0, .int .i64 0, .int .i64 0, .int .u8 0, .int .i64 0] 23).on hb; have NB := chain (below_alloc HB.out _) hb; clear hb; clear HB; have HB := Aside0.mk NB; clear NB; have B_t := Aside0.mk N_t; have q_t := N_t.lt; have x_t0 := N_t.c 0 _ rfl; have x_t1 := N_t.c 1 _ rfl; have x_t2 := N_t.c 2 _ rfl; have x_t3 := N_t.c 3 _ rfl; have x_t4 := N_t.c 4 _ rfl; clear N_t))
  go_ret
  exact ⟨rfl, (below_alloc HB.out _)⟩
set_option maxHeartbeats 4000000 in
set_option maxRecDepth 100000 in
theorem c41b (s more : ByteArray) (n : Nat) (hn : n < s.size) (ha : ¬ (n : Int) ≥ (s.size : Int)) (hm : ¬ (more.size : Int) > 1000000) (hs : ¬ (s.size : Int) > 40000) (h1 : bt s (n : Int) ≥ 48) (h2 : ¬ bt s (n : Int) ≤ 57) (w : World) (m1 : ∀ W : World, Below w.heap.size w W → Calls Tryd.prog 15 #[] W fun e w' => e = .returned (.bool true) ∧ Below W.heap.size W w') (m2 : ∀ W : World, Below w.heap.size w W → Calls Tryd.prog 14 #[.string s] W fun e w' => e = .returned (.tuple #[.agg #[.int .u8 0, .int .i64 0, .int .i64 0, .int .u8 0, .int .i64 0], .int .i64 (n : Int), .int .i64 41]) ∧ Below W.heap.size W w') (m3 : ∀ W : World, Below w.heap.size w W → Calls Tryd.prog 14 #[.string (s.extract 0 (n + 1) ++ more)] W fun e w' => e = .returned (.tuple #[.agg #[.int .u8 0, .int .i64 0, .int .i64 0, .int .u8 0, .int .i64 0], .int .i64 (n : Int), .int .i64 41]) ∧ Below W.heap.size W w') :
    Calls Tryd.prog 7 #[.string s, .string more] w fun e w' => e = .returned (.bool true) ∧ Below w.heap.size w w' := by
  have M1 := Aside0.mk m1; have M2 := Aside0.mk m2; have M3 := Aside0.mk m3
  clear m1 m2 m3
  have p2 : ((n : Int) < (s.size : Int)) = True := eq_true (by omega)
  have z2 : ((0 : Int) ≤ (n : Int)) = True := eq_true (by omega)
  have b2 : decide ((n : Int) < (s.size : Int)) = true := decide_eq_true (by omega)
  have x2 : ∀ h : n < s.size, ((s[n]'h).toNat : Int) = bt s (n : Int) := bt_at s (n : Int)
  have hu0 := Tryd.underlying23
  go_enter Tryd.func7, Tryd.ntmps7
  go_wp2_with (first
    | (go_at_call 15; with_reducible refine (M1.out _ (by repeat (first | exact HB.out | exact Below.refl _ _ | apply below_alloc))).mono ?_; rintro e v1 ⟨rfl, hb⟩; have NB := chain (Below.refl w.heap.size w) hb; clear hb; have HB := Aside0.mk NB; clear NB)
    | (go_at_call 14; with_reducible refine (M2.out _ (by repeat (first | exact HB.out | exact Below.refl _ _ | apply below_alloc))).mono ?_; rintro e v2 ⟨rfl, hb⟩; have NB := chain HB.out hb; clear hb; clear HB; have HB := Aside0.mk NB; clear NB)
    | (go_at_call 14; with_reducible refine (M3.out _ (by repeat (first | exact HB.out | exact Below.refl _ _ | apply below_alloc))).mono ?_; rintro e v3 ⟨rfl, hb⟩; have N_t := (Bx.new _ #[.int .u8 0, .int .i64 0, .int .i64 0, .int .u8 0, .int .i64 0] 23).on hb; have NB := chain (below_alloc HB.out _) hb; clear hb; clear HB; have HB := Aside0.mk NB; clear NB; have B_t := Aside0.mk N_t; have q_t := N_t.lt; have x_t0 := N_t.c 0 _ rfl; have x_t1 := N_t.c 1 _ rfl; have x_t2 := N_t.c 2 _ rfl; have x_t3 := N_t.c 3 _ rfl; have x_t4 := N_t.c 4 _ rfl; clear N_t))
  go_ret
  exact ⟨rfl, (below_alloc HB.out _)⟩
set_option maxHeartbeats 4000000 in
set_option maxRecDepth 100000 in
theorem c43a (s more : ByteArray) (n : Nat) (hn : n < s.size) (ha : ¬ (n : Int) ≥ (s.size : Int)) (hm : ¬ (more.size : Int) > 1000000) (hs : ¬ (s.size : Int) > 40000) (h1 : (bt s (n : Int) == 43) = false) (h2 : (bt s (n : Int) == 45) = false) (w : World) (m1 : ∀ W : World, Below w.heap.size w W → Calls Tryd.prog 15 #[] W fun e w' => e = .returned (.bool true) ∧ Below W.heap.size W w') (m2 : ∀ W : World, Below w.heap.size w W → Calls Tryd.prog 14 #[.string s] W fun e w' => e = .returned (.tuple #[.agg #[.int .u8 0, .int .i64 0, .int .i64 0, .int .u8 0, .int .i64 0], .int .i64 (n : Int), .int .i64 43]) ∧ Below W.heap.size W w') (m3 : ∀ W : World, Below w.heap.size w W → Calls Tryd.prog 14 #[.string (s.extract 0 (n + 1) ++ more)] W fun e w' => e = .returned (.tuple #[.agg #[.int .u8 0, .int .i64 0, .int .i64 0, .int .u8 0, .int .i64 0], .int .i64 (n : Int), .int .i64 43]) ∧ Below W.heap.size W w') :
    Calls Tryd.prog 7 #[.string s, .string more] w fun e w' => e = .returned (.bool true) ∧ Below w.heap.size w w' := by
  have M1 := Aside0.mk m1; have M2 := Aside0.mk m2; have M3 := Aside0.mk m3
  clear m1 m2 m3
  have p2 : ((n : Int) < (s.size : Int)) = True := eq_true (by omega)
  have z2 : ((0 : Int) ≤ (n : Int)) = True := eq_true (by omega)
  have b2 : decide ((n : Int) < (s.size : Int)) = true := decide_eq_true (by omega)
  have x2 : ∀ h : n < s.size, ((s[n]'h).toNat : Int) = bt s (n : Int) := bt_at s (n : Int)
  have hu0 := Tryd.underlying23
  go_enter Tryd.func7, Tryd.ntmps7
  go_wp2_with (first
    | (go_at_call 15; with_reducible refine (M1.out _ (by repeat (first | exact HB.out | exact Below.refl _ _ | apply below_alloc))).mono ?_; rintro e v1 ⟨rfl, hb⟩; have NB := chain (Below.refl w.heap.size w) hb; clear hb; have HB := Aside0.mk NB; clear NB)
    | (go_at_call 14; with_reducible refine (M2.out _ (by repeat (first | exact HB.out | exact Below.refl _ _ | apply below_alloc))).mono ?_; rintro e v2 ⟨rfl, hb⟩; have NB := chain HB.out hb; clear hb; clear HB; have HB := Aside0.mk NB; clear NB)
    | (go_at_call 14; with_reducible refine (M3.out _ (by repeat (first | exact HB.out | exact Below.refl _ _ | apply below_alloc))).mono ?_; rintro e v3 ⟨rfl, hb⟩; have N_t := (Bx.new _ #[.int .u8 0, .int .i64 0, .int .i64 0, .int .u8 0, .int .i64 0] 23).on hb; have NB := chain (below_alloc HB.out _) hb; clear hb; clear HB; have HB := Aside0.mk NB; clear NB; have B_t := Aside0.mk N_t; have q_t := N_t.lt; have x_t0 := N_t.c 0 _ rfl; have x_t1 := N_t.c 1 _ rfl; have x_t2 := N_t.c 2 _ rfl; have x_t3 := N_t.c 3 _ rfl; have x_t4 := N_t.c 4 _ rfl; clear N_t))
  go_ret
  exact ⟨rfl, (below_alloc HB.out _)⟩
set_option maxHeartbeats 4000000 in
set_option maxRecDepth 100000 in
theorem b43_43 (s more : ByteArray) (m : Nat) (hn : m + 1 < s.size) (ha : ¬ ((m : Int) + 1) ≥ (s.size : Int)) (hm : ¬ (more.size : Int) > 1000000) (hs : ¬ (s.size : Int) > 40000) (h1 : (bt s ((m : Int) + 1) == 43) = true) (h3 : (bt s (m : Int) != 43) = true) (h4 : (bt s (m : Int) != 45) = true) (w : World) (m1 : ∀ W : World, Below w.heap.size w W → Calls Tryd.prog 15 #[] W fun e w' => e = .returned (.bool true) ∧ Below W.heap.size W w') (m2 : ∀ W : World, Below w.heap.size w W → Calls Tryd.prog 14 #[.string s] W fun e w' => e = .returned (.tuple #[.agg #[.int .u8 0, .int .i64 0, .int .i64 0, .int .u8 0, .int .i64 0], .int .i64 ((m : Int) + 1), .int .i64 43]) ∧ Below W.heap.size W w') :
    Calls Tryd.prog 7 #[.string s, .string more] w fun e w' => e = .returned (.bool true) ∧ Below w.heap.size w w' := by
  have M1 := Aside0.mk m1; have M2 := Aside0.mk m2
  clear m1 m2
  have p2 : ((m : Int) + 1 < (s.size : Int)) = True := eq_true (by omega)
  have z2 : ((0 : Int) ≤ (m : Int) + 1) = True := eq_true (by omega)
  have x2 : ∀ h : m + 1 < s.size, ((s[m + 1]'h).toNat : Int) = bt s ((m : Int) + 1) := btN s (m + 1) _ (by omega)
  have q2 : ((m : Int) + 1).toNat = m + 1 := by omega
  have p1 : ((m : Int) < (s.size : Int)) = True := eq_true (by omega)
  have z1 : ((0 : Int) ≤ (m : Int)) = True := eq_true (by omega)
  have x1 : ∀ h : m < s.size, ((s[m]'h).toNat : Int) = bt s (m : Int) := bt_at s (m : Int)
  have w1 : wrap64 ((m : Int) + 1 - 1) = (m : Int) := by unfold wrap64; omega
  have g1 : (m : Int) + 1 > 0 := by omega
  have hu0 := Tryd.underlying23
  go_enter Tryd.func7, Tryd.ntmps7
  go_wp2_with (first
    | (go_at_call 15; with_reducible refine (M1.out _ (by repeat (first | exact HB.out | exact Below.refl _ _ | apply below_alloc))).mono ?_; rintro e v1 ⟨rfl, hb⟩; have NB := chain (Below.refl w.heap.size w) hb; clear hb; have HB := Aside0.mk NB; clear NB)
    | (go_at_call 14; with_reducible refine (M2.out _ (by repeat (first | exact HB.out | exact Below.refl _ _ | apply below_alloc))).mono ?_; rintro e v2 ⟨rfl, hb⟩; have NB := chain HB.out hb; clear hb; clear HB; have HB := Aside0.mk NB; clear NB))
  go_ret
  exact ⟨rfl, (below_alloc HB.out _)⟩
set_option maxHeartbeats 4000000 in
set_option maxRecDepth 100000 in
theorem c43c_43 (s more : ByteArray) (m : Nat) (hn : m + 1 < s.size) (ha : ¬ ((m : Int) + 1) ≥ (s.size : Int)) (hm : ¬ (more.size : Int) > 1000000) (hs : ¬ (s.size : Int) > 40000) (h1 : (bt s ((m : Int) + 1) == 43) = true) (h3 : (bt s (m : Int) != 43) = false) (w : World) (m1 : ∀ W : World, Below w.heap.size w W → Calls Tryd.prog 15 #[] W fun e w' => e = .returned (.bool true) ∧ Below W.heap.size W w') (m2 : ∀ W : World, Below w.heap.size w W → Calls Tryd.prog 14 #[.string s] W fun e w' => e = .returned (.tuple #[.agg #[.int .u8 0, .int .i64 0, .int .i64 0, .int .u8 0, .int .i64 0], .int .i64 ((m : Int) + 1), .int .i64 43]) ∧ Below W.heap.size W w') (m3 : ∀ W : World, Below w.heap.size w W → Calls Tryd.prog 14 #[.string (s.extract 0 (m + 2) ++ more)] W fun e w' => e = .returned (.tuple #[.agg #[.int .u8 0, .int .i64 0, .int .i64 0, .int .u8 0, .int .i64 0], .int .i64 ((m : Int) + 1), .int .i64 43]) ∧ Below W.heap.size W w') :
    Calls Tryd.prog 7 #[.string s, .string more] w fun e w' => e = .returned (.bool true) ∧ Below w.heap.size w w' := by
  have M1 := Aside0.mk m1; have M2 := Aside0.mk m2; have M3 := Aside0.mk m3
  clear m1 m2 m3
  have p2 : ((m : Int) + 1 < (s.size : Int)) = True := eq_true (by omega)
  have z2 : ((0 : Int) ≤ (m : Int) + 1) = True := eq_true (by omega)
  have x2 : ∀ h : m + 1 < s.size, ((s[m + 1]'h).toNat : Int) = bt s ((m : Int) + 1) := btN s (m + 1) _ (by omega)
  have q2 : ((m : Int) + 1).toNat = m + 1 := by omega
  have p1 : ((m : Int) < (s.size : Int)) = True := eq_true (by omega)
  have z1 : ((0 : Int) ≤ (m : Int)) = True := eq_true (by omega)
  have x1 : ∀ h : m < s.size, ((s[m]'h).toNat : Int) = bt s (m : Int) := bt_at s (m : Int)
  have w1 : wrap64 ((m : Int) + 1 - 1) = (m : Int) := by unfold wrap64; omega
  have g1 : (m : Int) + 1 > 0 := by omega
  have hu0 := Tryd.underlying23
  go_enter Tryd.func7, Tryd.ntmps7
  go_wp2_with (first
    | (go_at_call 15; with_reducible refine (M1.out _ (by repeat (first | exact HB.out | exact Below.refl _ _ | apply below_alloc))).mono ?_; rintro e v1 ⟨rfl, hb⟩; have NB := chain (Below.refl w.heap.size w) hb; clear hb; have HB := Aside0.mk NB; clear NB)
    | (go_at_call 14; with_reducible refine (M2.out _ (by repeat (first | exact HB.out | exact Below.refl _ _ | apply below_alloc))).mono ?_; rintro e v2 ⟨rfl, hb⟩; have NB := chain HB.out hb; clear hb; clear HB; have HB := Aside0.mk NB; clear NB)
    | (go_at_call 14; with_reducible refine (M3.out _ (by repeat (first | exact HB.out | exact Below.refl _ _ | apply below_alloc))).mono ?_; rintro e v3 ⟨rfl, hb⟩; have N_t := (Bx.new _ #[.int .u8 0, .int .i64 0, .int .i64 0, .int .u8 0, .int .i64 0] 23).on hb; have NB := chain (below_alloc HB.out _) hb; clear hb; clear HB; have HB := Aside0.mk NB; clear NB; have B_t := Aside0.mk N_t; have q_t := N_t.lt; have x_t0 := N_t.c 0 _ rfl; have x_t1 := N_t.c 1 _ rfl; have x_t2 := N_t.c 2 _ rfl; have x_t3 := N_t.c 3 _ rfl; have x_t4 := N_t.c 4 _ rfl; clear N_t))
  go_ret
  exact ⟨rfl, (below_alloc HB.out _)⟩
set_option maxHeartbeats 4000000 in
set_option maxRecDepth 100000 in
theorem c43d_43 (s more : ByteArray) (m : Nat) (hn : m + 1 < s.size) (ha : ¬ ((m : Int) + 1) ≥ (s.size : Int)) (hm : ¬ (more.size : Int) > 1000000) (hs : ¬ (s.size : Int) > 40000) (h1 : (bt s ((m : Int) + 1) == 43) = true) (h3 : (bt s (m : Int) != 43) = true) (h4 : (bt s (m : Int) != 45) = false) (w : World) (m1 : ∀ W : World, Below w.heap.size w W → Calls Tryd.prog 15 #[] W fun e w' => e = .returned (.bool true) ∧ Below W.heap.size W w') (m2 : ∀ W : World, Below w.heap.size w W → Calls Tryd.prog 14 #[.string s] W fun e w' => e = .returned (.tuple #[.agg #[.int .u8 0, .int .i64 0, .int .i64 0, .int .u8 0, .int .i64 0], .int .i64 ((m : Int) + 1), .int .i64 43]) ∧ Below W.heap.size W w') (m3 : ∀ W : World, Below w.heap.size w W → Calls Tryd.prog 14 #[.string (s.extract 0 (m + 2) ++ more)] W fun e w' => e = .returned (.tuple #[.agg #[.int .u8 0, .int .i64 0, .int .i64 0, .int .u8 0, .int .i64 0], .int .i64 ((m : Int) + 1), .int .i64 43]) ∧ Below W.heap.size W w') :
    Calls Tryd.prog 7 #[.string s, .string more] w fun e w' => e = .returned (.bool true) ∧ Below w.heap.size w w' := by
  have M1 := Aside0.mk m1; have M2 := Aside0.mk m2; have M3 := Aside0.mk m3
  clear m1 m2 m3
  have p2 : ((m : Int) + 1 < (s.size : Int)) = True := eq_true (by omega)
  have z2 : ((0 : Int) ≤ (m : Int) + 1) = True := eq_true (by omega)
  have x2 : ∀ h : m + 1 < s.size, ((s[m + 1]'h).toNat : Int) = bt s ((m : Int) + 1) := btN s (m + 1) _ (by omega)
  have q2 : ((m : Int) + 1).toNat = m + 1 := by omega
  have p1 : ((m : Int) < (s.size : Int)) = True := eq_true (by omega)
  have z1 : ((0 : Int) ≤ (m : Int)) = True := eq_true (by omega)
  have x1 : ∀ h : m < s.size, ((s[m]'h).toNat : Int) = bt s (m : Int) := bt_at s (m : Int)
  have w1 : wrap64 ((m : Int) + 1 - 1) = (m : Int) := by unfold wrap64; omega
  have g1 : (m : Int) + 1 > 0 := by omega
  have hu0 := Tryd.underlying23
  go_enter Tryd.func7, Tryd.ntmps7
  go_wp2_with (first
    | (go_at_call 15; with_reducible refine (M1.out _ (by repeat (first | exact HB.out | exact Below.refl _ _ | apply below_alloc))).mono ?_; rintro e v1 ⟨rfl, hb⟩; have NB := chain (Below.refl w.heap.size w) hb; clear hb; have HB := Aside0.mk NB; clear NB)
    | (go_at_call 14; with_reducible refine (M2.out _ (by repeat (first | exact HB.out | exact Below.refl _ _ | apply below_alloc))).mono ?_; rintro e v2 ⟨rfl, hb⟩; have NB := chain HB.out hb; clear hb; clear HB; have HB := Aside0.mk NB; clear NB)
    | (go_at_call 14; with_reducible refine (M3.out _ (by repeat (first | exact HB.out | exact Below.refl _ _ | apply below_alloc))).mono ?_; rintro e v3 ⟨rfl, hb⟩; have N_t := (Bx.new _ #[.int .u8 0, .int .i64 0, .int .i64 0, .int .u8 0, .int .i64 0] 23).on hb; have NB := chain (below_alloc HB.out _) hb; clear hb; clear HB; have HB := Aside0.mk NB; clear NB; have B_t := Aside0.mk N_t; have q_t := N_t.lt; have x_t0 := N_t.c 0 _ rfl; have x_t1 := N_t.c 1 _ rfl; have x_t2 := N_t.c 2 _ rfl; have x_t3 := N_t.c 3 _ rfl; have x_t4 := N_t.c 4 _ rfl; clear N_t))
  go_ret
  exact ⟨rfl, (below_alloc HB.out _)⟩
set_option maxHeartbeats 4000000 in
set_option maxRecDepth 100000 in
theorem b43_45 (s more : ByteArray) (m : Nat) (hn : m + 1 < s.size) (ha : ¬ ((m : Int) + 1) ≥ (s.size : Int)) (hm : ¬ (more.size : Int) > 1000000) (hs : ¬ (s.size : Int) > 40000) (h1 : (bt s ((m : Int) + 1) == 43) = false) (h2 : (bt s ((m : Int) + 1) == 45) = true) (h3 : (bt s (m : Int) != 43) = true) (h4 : (bt s (m : Int) != 45) = true) (w : World) (m1 : ∀ W : World, Below w.heap.size w W → Calls Tryd.prog 15 #[] W fun e w' => e = .returned (.bool true) ∧ Below W.heap.size W w') (m2 : ∀ W : World, Below w.heap.size w W → Calls Tryd.prog 14 #[.string s] W fun e w' => e = .returned (.tuple #[.agg #[.int .u8 0, .int .i64 0, .int .i64 0, .int .u8 0, .int .i64 0], .int .i64 ((m : Int) + 1), .int .i64 43]) ∧ Below W.heap.size W w') :
    Calls Tryd.prog 7 #[.string s, .string more] w fun e w' => e = .returned (.bool true) ∧ Below w.heap.size w w' := by
  have M1 := Aside0.mk m1; have M2 := Aside0.mk m2
  clear m1 m2
  have p2 : ((m : Int) + 1 < (s.size : Int)) = True := eq_true (by omega)
  have z2 : ((0 : Int) ≤ (m : Int) + 1) = True := eq_true (by omega)
  have x2 : ∀ h : m + 1 < s.size, ((s[m + 1]'h).toNat : Int) = bt s ((m : Int) + 1) := btN s (m + 1) _ (by omega)
  have q2 : ((m : Int) + 1).toNat = m + 1 := by omega
  have p1 : ((m : Int) < (s.size : Int)) = True := eq_true (by omega)
  have z1 : ((0 : Int) ≤ (m : Int)) = True := eq_true (by omega)
  have x1 : ∀ h : m < s.size, ((s[m]'h).toNat : Int) = bt s (m : Int) := bt_at s (m : Int)
  have w1 : wrap64 ((m : Int) + 1 - 1) = (m : Int) := by unfold wrap64; omega
  have g1 : (m : Int) + 1 > 0 := by omega
  have hu0 := Tryd.underlying23
  go_enter Tryd.func7, Tryd.ntmps7
  go_wp2_with (first
    | (go_at_call 15; with_reducible refine (M1.out _ (by repeat (first | exact HB.out | exact Below.refl _ _ | apply below_alloc))).mono ?_; rintro e v1 ⟨rfl, hb⟩; have NB := chain (Below.refl w.heap.size w) hb; clear hb; have HB := Aside0.mk NB; clear NB)
    | (go_at_call 14; with_reducible refine (M2.out _ (by repeat (first | exact HB.out | exact Below.refl _ _ | apply below_alloc))).mono ?_; rintro e v2 ⟨rfl, hb⟩; have NB := chain HB.out hb; clear hb; clear HB; have HB := Aside0.mk NB; clear NB))
  go_ret
  exact ⟨rfl, (below_alloc HB.out _)⟩
set_option maxHeartbeats 4000000 in
set_option maxRecDepth 100000 in
theorem c43c_45 (s more : ByteArray) (m : Nat) (hn : m + 1 < s.size) (ha : ¬ ((m : Int) + 1) ≥ (s.size : Int)) (hm : ¬ (more.size : Int) > 1000000) (hs : ¬ (s.size : Int) > 40000) (h1 : (bt s ((m : Int) + 1) == 43) = false) (h2 : (bt s ((m : Int) + 1) == 45) = true) (h3 : (bt s (m : Int) != 43) = false) (w : World) (m1 : ∀ W : World, Below w.heap.size w W → Calls Tryd.prog 15 #[] W fun e w' => e = .returned (.bool true) ∧ Below W.heap.size W w') (m2 : ∀ W : World, Below w.heap.size w W → Calls Tryd.prog 14 #[.string s] W fun e w' => e = .returned (.tuple #[.agg #[.int .u8 0, .int .i64 0, .int .i64 0, .int .u8 0, .int .i64 0], .int .i64 ((m : Int) + 1), .int .i64 43]) ∧ Below W.heap.size W w') (m3 : ∀ W : World, Below w.heap.size w W → Calls Tryd.prog 14 #[.string (s.extract 0 (m + 2) ++ more)] W fun e w' => e = .returned (.tuple #[.agg #[.int .u8 0, .int .i64 0, .int .i64 0, .int .u8 0, .int .i64 0], .int .i64 ((m : Int) + 1), .int .i64 43]) ∧ Below W.heap.size W w') :
    Calls Tryd.prog 7 #[.string s, .string more] w fun e w' => e = .returned (.bool true) ∧ Below w.heap.size w w' := by
  have M1 := Aside0.mk m1; have M2 := Aside0.mk m2; have M3 := Aside0.mk m3
  clear m1 m2 m3
  have p2 : ((m : Int) + 1 < (s.size : Int)) = True := eq_true (by omega)
  have z2 : ((0 : Int) ≤ (m : Int) + 1) = True := eq_true (by omega)
  have x2 : ∀ h : m + 1 < s.size, ((s[m + 1]'h).toNat : Int) = bt s ((m : Int) + 1) := btN s (m + 1) _ (by omega)
  have q2 : ((m : Int) + 1).toNat = m + 1 := by omega
  have p1 : ((m : Int) < (s.size : Int)) = True := eq_true (by omega)
  have z1 : ((0 : Int) ≤ (m : Int)) = True := eq_true (by omega)
  have x1 : ∀ h : m < s.size, ((s[m]'h).toNat : Int) = bt s (m : Int) := bt_at s (m : Int)
  have w1 : wrap64 ((m : Int) + 1 - 1) = (m : Int) := by unfold wrap64; omega
  have g1 : (m : Int) + 1 > 0 := by omega
  have hu0 := Tryd.underlying23
  go_enter Tryd.func7, Tryd.ntmps7
  go_wp2_with (first
    | (go_at_call 15; with_reducible refine (M1.out _ (by repeat (first | exact HB.out | exact Below.refl _ _ | apply below_alloc))).mono ?_; rintro e v1 ⟨rfl, hb⟩; have NB := chain (Below.refl w.heap.size w) hb; clear hb; have HB := Aside0.mk NB; clear NB)
    | (go_at_call 14; with_reducible refine (M2.out _ (by repeat (first | exact HB.out | exact Below.refl _ _ | apply below_alloc))).mono ?_; rintro e v2 ⟨rfl, hb⟩; have NB := chain HB.out hb; clear hb; clear HB; have HB := Aside0.mk NB; clear NB)
    | (go_at_call 14; with_reducible refine (M3.out _ (by repeat (first | exact HB.out | exact Below.refl _ _ | apply below_alloc))).mono ?_; rintro e v3 ⟨rfl, hb⟩; have N_t := (Bx.new _ #[.int .u8 0, .int .i64 0, .int .i64 0, .int .u8 0, .int .i64 0] 23).on hb; have NB := chain (below_alloc HB.out _) hb; clear hb; clear HB; have HB := Aside0.mk NB; clear NB; have B_t := Aside0.mk N_t; have q_t := N_t.lt; have x_t0 := N_t.c 0 _ rfl; have x_t1 := N_t.c 1 _ rfl; have x_t2 := N_t.c 2 _ rfl; have x_t3 := N_t.c 3 _ rfl; have x_t4 := N_t.c 4 _ rfl; clear N_t))
  go_ret
  exact ⟨rfl, (below_alloc HB.out _)⟩
set_option maxHeartbeats 4000000 in
set_option maxRecDepth 100000 in
theorem c43d_45 (s more : ByteArray) (m : Nat) (hn : m + 1 < s.size) (ha : ¬ ((m : Int) + 1) ≥ (s.size : Int)) (hm : ¬ (more.size : Int) > 1000000) (hs : ¬ (s.size : Int) > 40000) (h1 : (bt s ((m : Int) + 1) == 43) = false) (h2 : (bt s ((m : Int) + 1) == 45) = true) (h3 : (bt s (m : Int) != 43) = true) (h4 : (bt s (m : Int) != 45) = false) (w : World) (m1 : ∀ W : World, Below w.heap.size w W → Calls Tryd.prog 15 #[] W fun e w' => e = .returned (.bool true) ∧ Below W.heap.size W w') (m2 : ∀ W : World, Below w.heap.size w W → Calls Tryd.prog 14 #[.string s] W fun e w' => e = .returned (.tuple #[.agg #[.int .u8 0, .int .i64 0, .int .i64 0, .int .u8 0, .int .i64 0], .int .i64 ((m : Int) + 1), .int .i64 43]) ∧ Below W.heap.size W w') (m3 : ∀ W : World, Below w.heap.size w W → Calls Tryd.prog 14 #[.string (s.extract 0 (m + 2) ++ more)] W fun e w' => e = .returned (.tuple #[.agg #[.int .u8 0, .int .i64 0, .int .i64 0, .int .u8 0, .int .i64 0], .int .i64 ((m : Int) + 1), .int .i64 43]) ∧ Below W.heap.size W w') :
    Calls Tryd.prog 7 #[.string s, .string more] w fun e w' => e = .returned (.bool true) ∧ Below w.heap.size w w' := by
  have M1 := Aside0.mk m1; have M2 := Aside0.mk m2; have M3 := Aside0.mk m3
  clear m1 m2 m3
  have p2 : ((m : Int) + 1 < (s.size : Int)) = True := eq_true (by omega)
  have z2 : ((0 : Int) ≤ (m : Int) + 1) = True := eq_true (by omega)
  have x2 : ∀ h : m + 1 < s.size, ((s[m + 1]'h).toNat : Int) = bt s ((m : Int) + 1) := btN s (m + 1) _ (by omega)
  have q2 : ((m : Int) + 1).toNat = m + 1 := by omega
  have p1 : ((m : Int) < (s.size : Int)) = True := eq_true (by omega)
  have z1 : ((0 : Int) ≤ (m : Int)) = True := eq_true (by omega)
  have x1 : ∀ h : m < s.size, ((s[m]'h).toNat : Int) = bt s (m : Int) := bt_at s (m : Int)
  have w1 : wrap64 ((m : Int) + 1 - 1) = (m : Int) := by unfold wrap64; omega
  have g1 : (m : Int) + 1 > 0 := by omega
  have hu0 := Tryd.underlying23
  go_enter Tryd.func7, Tryd.ntmps7
  go_wp2_with (first
    | (go_at_call 15; with_reducible refine (M1.out _ (by repeat (first | exact HB.out | exact Below.refl _ _ | apply below_alloc))).mono ?_; rintro e v1 ⟨rfl, hb⟩; have NB := chain (Below.refl w.heap.size w) hb; clear hb; have HB := Aside0.mk NB; clear NB)
    | (go_at_call 14; with_reducible refine (M2.out _ (by repeat (first | exact HB.out | exact Below.refl _ _ | apply below_alloc))).mono ?_; rintro e v2 ⟨rfl, hb⟩; have NB := chain HB.out hb; clear hb; clear HB; have HB := Aside0.mk NB; clear NB)
    | (go_at_call 14; with_reducible refine (M3.out _ (by repeat (first | exact HB.out | exact Below.refl _ _ | apply below_alloc))).mono ?_; rintro e v3 ⟨rfl, hb⟩; have N_t := (Bx.new _ #[.int .u8 0, .int .i64 0, .int .i64 0, .int .u8 0, .int .i64 0] 23).on hb; have NB := chain (below_alloc HB.out _) hb; clear hb; clear HB; have HB := Aside0.mk NB; clear NB; have B_t := Aside0.mk N_t; have q_t := N_t.lt; have x_t0 := N_t.c 0 _ rfl; have x_t1 := N_t.c 1 _ rfl; have x_t2 := N_t.c 2 _ rfl; have x_t3 := N_t.c 3 _ rfl; have x_t4 := N_t.c 4 _ rfl; clear N_t))
  go_ret
  exact ⟨rfl, (below_alloc HB.out _)⟩
set_option maxHeartbeats 4000000 in
set_option maxRecDepth 100000 in
theorem c43b_43 (s more : ByteArray) (hn : 0 < s.size) (ha : ¬ (0 : Int) ≥ (s.size : Int)) (hm : ¬ (more.size : Int) > 1000000) (hs : ¬ (s.size : Int) > 40000) (h1 : (bt s 0 == 43) = true) (w : World) (m1 : ∀ W : World, Below w.heap.size w W → Calls Tryd.prog 15 #[] W fun e w' => e = .returned (.bool true) ∧ Below W.heap.size W w') (m2 : ∀ W : World, Below w.heap.size w W → Calls Tryd.prog 14 #[.string s] W fun e w' => e = .returned (.tuple #[.agg #[.int .u8 0, .int .i64 0, .int .i64 0, .int .u8 0, .int .i64 0], .int .i64 0, .int .i64 43]) ∧ Below W.heap.size W w') (m3 : ∀ W : World, Below w.heap.size w W → Calls Tryd.prog 14 #[.string (s.extract 0 1 ++ more)] W fun e w' => e = .returned (.tuple #[.agg #[.int .u8 0, .int .i64 0, .int .i64 0, .int .u8 0, .int .i64 0], .int .i64 0, .int .i64 43]) ∧ Below W.heap.size W w') :
    Calls Tryd.prog 7 #[.string s, .string more] w fun e w' => e = .returned (.bool true) ∧ Below w.heap.size w w' := by
  have M1 := Aside0.mk m1; have M2 := Aside0.mk m2; have M3 := Aside0.mk m3
  clear m1 m2 m3
  have p2 : ((0 : Int) < (s.size : Int)) = True := eq_true (by omega)
  have x2 : ∀ h : 0 < s.size, ((s[0]'h).toNat : Int) = bt s 0 := btN s 0 _ rfl
  have hu0 := Tryd.underlying23
  go_enter Tryd.func7, Tryd.ntmps7
  go_wp2_with (first
    | (go_at_call 15; with_reducible refine (M1.out _ (by repeat (first | exact HB.out | exact Below.refl _ _ | apply below_alloc))).mono ?_; rintro e v1 ⟨rfl, hb⟩; have NB := chain (Below.refl w.heap.size w) hb; clear hb; have HB := Aside0.mk NB; clear NB)
    | (go_at_call 14; with_reducible refine (M2.out _ (by repeat (first | exact HB.out | exact Below.refl _ _ | apply below_alloc))).mono ?_; rintro e v2 ⟨rfl, hb⟩; have NB := chain HB.out hb; clear hb; clear HB; have HB := Aside0.mk NB; clear NB)
    | (go_at_call 14; with_reducible refine (M3.out _ (by repeat (first | exact HB.out | exact Below.refl _ _ | apply below_alloc))).mono ?_; rintro e v3 ⟨rfl, hb⟩; have N_t := (Bx.new _ #[.int .u8 0, .int .i64 0, .int .i64 0, .int .u8 0, .int .i64 0] 23).on hb; have NB := chain (below_alloc HB.out _) hb; clear hb; clear HB; have HB := Aside0.mk NB; clear NB; have B_t := Aside0.mk N_t; have q_t := N_t.lt; have x_t0 := N_t.c 0 _ rfl; have x_t1 := N_t.c 1 _ rfl; have x_t2 := N_t.c 2 _ rfl; have x_t3 := N_t.c 3 _ rfl; have x_t4 := N_t.c 4 _ rfl; clear N_t))
  all_goals (go_ret; exact ⟨rfl, by repeat (first | exact HB.out | apply below_alloc)⟩)
set_option maxHeartbeats 4000000 in
set_option maxRecDepth 100000 in
theorem c43b_45 (s more : ByteArray) (hn : 0 < s.size) (ha : ¬ (0 : Int) ≥ (s.size : Int)) (hm : ¬ (more.size : Int) > 1000000) (hs : ¬ (s.size : Int) > 40000) (h1 : (bt s 0 == 43) = false) (h2 : (bt s 0 == 45) = true) (w : World) (m1 : ∀ W : World, Below w.heap.size w W → Calls Tryd.prog 15 #[] W fun e w' => e = .returned (.bool true) ∧ Below W.heap.size W w') (m2 : ∀ W : World, Below w.heap.size w W → Calls Tryd.prog 14 #[.string s] W fun e w' => e = .returned (.tuple #[.agg #[.int .u8 0, .int .i64 0, .int .i64 0, .int .u8 0, .int .i64 0], .int .i64 0, .int .i64 43]) ∧ Below W.heap.size W w') (m3 : ∀ W : World, Below w.heap.size w W → Calls Tryd.prog 14 #[.string (s.extract 0 1 ++ more)] W fun e w' => e = .returned (.tuple #[.agg #[.int .u8 0, .int .i64 0, .int .i64 0, .int .u8 0, .int .i64 0], .int .i64 0, .int .i64 43]) ∧ Below W.heap.size W w') :
    Calls Tryd.prog 7 #[.string s, .string more] w fun e w' => e = .returned (.bool true) ∧ Below w.heap.size w w' := by
  have M1 := Aside0.mk m1; have M2 := Aside0.mk m2; have M3 := Aside0.mk m3
  clear m1 m2 m3
  have p2 : ((0 : Int) < (s.size : Int)) = True := eq_true (by omega)
  have x2 : ∀ h : 0 < s.size, ((s[0]'h).toNat : Int) = bt s 0 := btN s 0 _ rfl
  have hu0 := Tryd.underlying23
  go_enter Tryd.func7, Tryd.ntmps7
  go_wp2_with (first
    | (go_at_call 15; with_reducible refine (M1.out _ (by repeat (first | exact HB.out | exact Below.refl _ _ | apply below_alloc))).mono ?_; rintro e v1 ⟨rfl, hb⟩; have NB := chain (Below.refl w.heap.size w) hb; clear hb; have HB := Aside0.mk NB; clear NB)
    | (go_at_call 14; with_reducible refine (M2.out _ (by repeat (first | exact HB.out | exact Below.refl _ _ | apply below_alloc))).mono ?_; rintro e v2 ⟨rfl, hb⟩; have NB := chain HB.out hb; clear hb; clear HB; have HB := Aside0.mk NB; clear NB)
    | (go_at_call 14; with_reducible refine (M3.out _ (by repeat (first | exact HB.out | exact Below.refl _ _ | apply below_alloc))).mono ?_; rintro e v3 ⟨rfl, hb⟩; have N_t := (Bx.new _ #[.int .u8 0, .int .i64 0, .int .i64 0, .int .u8 0, .int .i64 0] 23).on hb; have NB := chain (below_alloc HB.out _) hb; clear hb; clear HB; have HB := Aside0.mk NB; clear NB; have B_t := Aside0.mk N_t; have q_t := N_t.lt; have x_t0 := N_t.c 0 _ rfl; have x_t1 := N_t.c 1 _ rfl; have x_t2 := N_t.c 2 _ rfl; have x_t3 := N_t.c 3 _ rfl; have x_t4 := N_t.c 4 _ rfl; clear N_t))
  all_goals (go_ret; exact ⟨rfl, by repeat (first | exact HB.out | apply below_alloc)⟩)
theorem law (s more : ByteArray) (hs : s.size ≤ 140737488351232) (hm : more.size ≤ 140737488351232) (w : World) (hp : Pow w) :
    Calls Tryd.prog 7 #[.string s, .string more] w fun e w' => e = .returned (.bool true) ∧ Below w.heap.size w w' := by
  have m1 : ∀ W : World, Below w.heap.size w W → Calls Tryd.prog 15 #[] W fun e w' => e = .returned (.bool true) ∧ Below W.heap.size W w' := fun W hb => alive W (hp.on hb)
  have kr : ∀ (s : ByteArray) (W : World), Below w.heap.size w W → Calls Tryd.prog 14 #[.string s] W fun e w' => e = .returned (ParseAll.told (parse s)) ∧ Below W.heap.size W w' := fun s W _ => ParseAll.parse_calls s W
  obtain ⟨k, wd, h, u, x, a, er, hP, hcase⟩ := parse_one s
  have m2 := kr s
  rw [hP] at m2
  rcases hcase with ⟨rfl, rfl, _⟩ | ⟨he, rfl, rfl, rfl, rfl, rfl, a0, a1⟩
  · exact a1 s more k wd h u x 0 w m1 m2
  by_cases e3 : er = 3
  · subst e3
    exact a2 s more a w m1 m2
  have q0 : (er == 0) = false := beq_eq_false_iff_ne.mpr he
  have q3 : (er == 3) = false := beq_eq_false_iff_ne.mpr e3
  by_cases ha : a ≥ (s.size : Int)
  · exact a3 s more a er q0 q3 ha w m1 m2
  by_cases gm : (more.size : Int) > 1000000
  · exact a4 s more a er q0 q3 ha gm w m1 m2
  by_cases gs : (s.size : Int) > 40000
  · exact a5 s more a er q0 q3 ha gm gs w m1 m2
  obtain ⟨n, rfl⟩ : ∃ n : Nat, a = (n : Int) := ⟨a.toNat, by omega⟩
  have hn : n < s.size := by omega
  have m3 := kr (cut s more n)
  rcases first s more (by omega) (by omega) n hn er he hP with hS | ⟨hE, hC⟩
  · rcases hS with rfl | rfl | ⟨rfl, d1, d2⟩ | ⟨rfl, d1, m, dm, d2⟩
    · exact b44 s more n hn ha gm gs w m1 m2
    · exact b42 s more n hn ha gm gs w m1 m2
    · exact b41 s more n hn ha gm gs d1 d2 w m1 m2
    · obtain rfl : n = m + 1 := by omega
      rw [Int.natCast_add, Int.natCast_one] at m2 d1 ha
      have d3 : (bt s (m : Int) != 43) = true := bne_iff_ne.mpr (fun z => d2 (.inl z))
      have d4 : (bt s (m : Int) != 45) = true := bne_iff_ne.mpr (fun z => d2 (.inr z))
      by_cases d5 : bt s ((m : Int) + 1) = 43
      · exact b43_43 s more m hn ha gm gs (beq_iff_eq.mpr d5) d3 d4 w m1 m2
      · have d6 : bt s ((m : Int) + 1) = 45 := by rcases d1 with d1 | d1; exact absurd d1 d5; exact d1
        exact b43_45 s more m hn ha gm gs (beq_eq_false_iff_ne.mpr d5) (beq_iff_eq.mpr d6) d3 d4 w m1 m2
  · rw [hC] at m3
    rcases hE with rfl | rfl | rfl | rfl
    · exact c40 s more n hn ha gm gs w m1 m2 m3
    · by_cases d1 : bt s (n : Int) ≥ 48
      · by_cases d2 : bt s (n : Int) ≤ 57
        · exact b41 s more n hn ha gm gs d1 d2 w m1 m2
        · exact c41b s more n hn ha gm gs d1 d2 w m1 m2 m3
      · exact c41a s more n hn ha gm gs d1 w m1 m2 m3
    · by_cases d0 : bt s (n : Int) = 43 ∨ bt s (n : Int) = 45
      · cases n with
        | zero =>
          have ha0 : ¬ (0 : Int) ≥ (s.size : Int) := ha
          by_cases d5 : bt s 0 = 43
          · exact c43b_43 s more hn ha0 gm gs (beq_iff_eq.mpr d5) w m1 m2 m3
          · have d6 : bt s 0 = 45 := by rcases d0 with d1 | d1; exact absurd d1 d5; exact d1
            exact c43b_45 s more hn ha0 gm gs (beq_eq_false_iff_ne.mpr d5) (beq_iff_eq.mpr d6) w m1 m2 m3
        | succ m =>
          rw [Int.natCast_add, Int.natCast_one] at m2 m3 d0 ha
          by_cases c1 : bt s (m : Int) = 43
          · have c1' : (bt s (m : Int) != 43) = false := bne_eq_false_iff_eq.mpr c1
            by_cases d5 : bt s ((m : Int) + 1) = 43
            · exact c43c_43 s more m hn ha gm gs (beq_iff_eq.mpr d5) c1' w m1 m2 m3
            · have d6 : bt s ((m : Int) + 1) = 45 := by rcases d0 with d1 | d1; exact absurd d1 d5; exact d1
              exact c43c_45 s more m hn ha gm gs (beq_eq_false_iff_ne.mpr d5) (beq_iff_eq.mpr d6) c1' w m1 m2 m3
          · have c1' : (bt s (m : Int) != 43) = true := bne_iff_ne.mpr c1
            by_cases c2 : bt s (m : Int) = 45
            · have c2' : (bt s (m : Int) != 45) = false := bne_eq_false_iff_eq.mpr c2
              by_cases d5 : bt s ((m : Int) + 1) = 43
              · exact c43d_43 s more m hn ha gm gs (beq_iff_eq.mpr d5) c1' c2' w m1 m2 m3
              · have d6 : bt s ((m : Int) + 1) = 45 := by rcases d0 with d1 | d1; exact absurd d1 d5; exact d1
                exact c43d_45 s more m hn ha gm gs (beq_eq_false_iff_ne.mpr d5) (beq_iff_eq.mpr d6) c1' c2' w m1 m2 m3
            · have c2' : (bt s (m : Int) != 45) = true := bne_iff_ne.mpr c2
              by_cases d5 : bt s ((m : Int) + 1) = 43
              · exact b43_43 s more m hn ha gm gs (beq_iff_eq.mpr d5) c1' c2' w m1 m2
              · have d6 : bt s ((m : Int) + 1) = 45 := by rcases d0 with d1 | d1; exact absurd d1 d5; exact d1
                exact b43_45 s more m hn ha gm gs (beq_eq_false_iff_ne.mpr d5) (beq_iff_eq.mpr d6) c1' c2' w m1 m2
      · exact c43a s more n hn ha gm gs (beq_eq_false_iff_ne.mpr (fun z => d0 (.inl z))) (beq_eq_false_iff_ne.mpr (fun z => d0 (.inr z))) w m1 m2 m3
    · exact c45 s more n hn ha gm gs w m1 m2 m3
end Go.Proofs.YtmcidodpnhkdfaaDoor.FirstWalk
