/- The machine side of topo.Has: whether a topology has a cell at a place. -/
import Derived.Test.YtmcidodpnhkdfaaDoorPTh
import Derived.Test.YtmcidodpnhkdfaaDoorCheckProg
import Derived.Test.YtmcidodpnhkdfaaDoorBox
import Derived.Test.YtmcidodpnhkdfaaDoorWords
namespace Go.Proofs.YtmcidodpnhkdfaaDoor.HasWalk
open Go.RowKit Go.Proofs.YtmcidodpnhkdfaaDoorW.PrintWords Go.Proofs.YtmcidodpnhkdfaaDoorW.PrintMore Go.Proofs.YtmcidodpnhkdfaaDoor.PT Go.Proofs.YtmcidodpnhkdfaaDoor.CheckPlain Go.Proofs.YtmcidodpnhkdfaaDoor.Box
attribute [local go_sem] max2_int min2_int max_two min_two
set_option linter.unusedVariables false
set_option linter.unusedSimpArgs false

def withB (v f n : Int) : Bool := (n == 0) || (decide (f ≤ v) && decide (v < f + n))
theorem within (v f n : Int) (f0 : -65536 ≤ f) (f1 : f ≤ 65536) (n0 : 0 ≤ n) (n1 : n ≤ 65536) (w : World) : Calls Tryd.prog 35 #[.int .i64 v, .int .i64 f, .int .i64 n] w fun e w' => e = .returned (.bool (withB v f n)) ∧ w = w' := by
  unfold withB
  by_cases h1 : n = 0
  · subst h1
    go_enter Tryd.func35, Tryd.ntmps35
    go_wp2
    go_ret
    exact ⟨rfl, rfl⟩
  · have e1 : (n == 0) = false := by simpa using h1
    rw [e1, Bool.false_or]
    by_cases h2 : f ≤ v
    · rw [decide_eq_true h2, Bool.true_and]
      go_enter Tryd.func35, Tryd.ntmps35
      go_wp2
      go_ret
      exact ⟨rfl, rfl⟩
    · rw [decide_eq_false h2, Bool.false_and]
      go_enter Tryd.func35, Tryd.ntmps35
      go_wp2
      go_ret
      exact ⟨rfl, rfl⟩
/-- What Home tells. -/
def homeX (n : Int) : Int := -(n / 2)
theorem home_ok (k w h u s : Int) (hc : checkR k w h u s = 0) : (0 ≤ w ∧ w ≤ 65536) ∧ (0 ≤ h ∧ h ≤ 65536) := by
  unfold checkR at hc
  grind
theorem half (n : Int) (h0 : 0 ≤ n) (h1 : n ≤ 65536) : wrap64 (-(wrap64 (Int.tdiv n 2))) = homeX n := by
  rw [Int.tdiv_eq_ediv_of_nonneg h0]; unfold homeX wrap64; omega
theorem home_at (k w h u s : Int) : topo_Home.f 5 k w h u s = some (if checkR k w h u s = 0 then (homeX w, homeX h, w, h, 0) else (0, 0, 0, 0, checkR k w h u s)) := by
  unfold topo_Home.f
  rw [prog_check k w h u s 0]
  simp only [Option.bind_some]
  by_cases hc : checkR k w h u s = 0
  · obtain ⟨⟨a, b⟩, c, d⟩ := home_ok k w h u s hc
    rw [if_pos hc, if_pos hc, half w a b, half h c d]
  · rw [if_neg hc, if_neg hc]
def far (x y : Int) : Bool := decide (x > 1099511627776 ∨ x < -1099511627776 ∨ y > 1099511627776 ∨ y < -1099511627776)
def hasB (k w h u s x y : Int) : Bool := if checkR k w h u s = 0 then (if far x y = true then false else withB x (homeX w) w && withB y (homeX h) h) else false
def hasE (k w h u s x y : Int) : Int := if checkR k w h u s = 0 then (if far x y = true then 5 else 0) else checkR k w h u s
set_option maxHeartbeats 4000000 in
set_option maxRecDepth 100000 in
theorem has_bad (k wd h u s x y : Int) (hc : checkR k wd h u s ≠ 0) (w : World) :
    Calls Tryd.prog 19 #[.agg #[.int .u8 k, .int .i64 wd, .int .i64 h, .int .u8 u, .int .i64 s], .agg #[.int .i64 x, .int .i64 y]] w fun e w' => e = .returned (.tuple #[.bool false, .int .i64 (checkR k wd h u s)]) ∧ Below w.heap.size w w' := by
  have hh := home_at k wd h u s
  rw [if_neg hc] at hh
  have k6 := fun (W : World) => topo_Home.calls 5 k wd h u s _ _ _ _ _ W hh
  have g : (checkR k wd h u s == 0) = false := by simpa using hc
  have g' : (checkR k wd h u s != 0) = true := by simpa using hc
  clear hh hc
  generalize checkR k wd h u s = c at *
  have K6 := Lib.hid k6; clear k6
  have hu1 := Tryd.underlying23
  have hu2 := Tryd.underlying40
  have hu3 := Tryd.underlying34
  go_enter Tryd.func19, Tryd.ntmps19
  go_wp2_with (first
    | (go_at_call 16; refine (K6.out _).mono ?_; rintro e w1 ⟨rfl, hb1⟩; have x0 : w1.cell? ⟨w.heap.size + 1, 0, none⟩ = some (.int .i64 x) := (hb1.cell (p := ⟨w.heap.size + 1, 0, none⟩) (by simp)).trans (by simp [World.cell?_alloc2_new]); have x1 : w1.cell? ⟨w.heap.size + 1, 1, none⟩ = some (.int .i64 y) := (hb1.cell (p := ⟨w.heap.size + 1, 1, none⟩) (by simp)).trans (by simp [World.cell?_alloc2_new]); have x2 : w.heap.size + 1 < w1.heap.size := Nat.lt_of_lt_of_le (by simp) hb1.size; have HB := Aside0.mk (chain (below_alloc (below_alloc (Below.refl w.heap.size w) _) _) hb1); clear hb1))
  go_ret2
  exact ⟨rfl, by repeat (first | exact HB.out | apply below_alloc | apply pw_below_drewN)⟩
set_option maxHeartbeats 4000000 in
set_option maxRecDepth 100000 in
theorem has_far1l (k wd h u s x y : Int) (hc : checkR k wd h u s = 0) (hxy : x < y) (hf : 1099511627776 < y) (w : World) :
    Calls Tryd.prog 19 #[.agg #[.int .u8 k, .int .i64 wd, .int .i64 h, .int .u8 u, .int .i64 s], .agg #[.int .i64 x, .int .i64 y]] w fun e w' => e = .returned (.tuple #[.bool false, .int .i64 5]) ∧ Below w.heap.size w w' := by
  have hh := home_at k wd h u s
  rw [if_pos hc] at hh
  obtain ⟨⟨wa, wb⟩, ha, hb⟩ := home_ok k wd h u s hc
  have X0 : -65536 ≤ homeX wd ∧ homeX wd ≤ 65536 := by unfold homeX; omega
  have Y0 : -65536 ≤ homeX h ∧ homeX h ≤ 65536 := by unfold homeX; omega
  have k6 := fun (W : World) => topo_Home.calls 5 k wd h u s _ _ _ _ _ W hh
  have wx := fun (W : World) => within x (homeX wd) wd X0.1 X0.2 wa wb W
  have wy := fun (W : World) => within y (homeX h) h Y0.1 Y0.2 ha hb W
  clear hh hc X0 Y0 wa wb ha hb
  generalize homeX wd = X at *
  generalize homeX h = Y at *
  have WX := Lib.hid wx; have WY := Lib.hid wy; clear wx wy
  have K6 := Lib.hid k6; clear k6
  have hu1 := Tryd.underlying23
  have hu2 := Tryd.underlying40
  have hu3 := Tryd.underlying34
  go_enter Tryd.func19, Tryd.ntmps19
  go_wp2_with (first
    | (go_at_call 16; refine (K6.out _).mono ?_; rintro e w1 ⟨rfl, hb1⟩; have x0 : w1.cell? ⟨w.heap.size + 1, 0, none⟩ = some (.int .i64 x) := (hb1.cell (p := ⟨w.heap.size + 1, 0, none⟩) (by simp)).trans (by simp [World.cell?_alloc2_new]); have x1 : w1.cell? ⟨w.heap.size + 1, 1, none⟩ = some (.int .i64 y) := (hb1.cell (p := ⟨w.heap.size + 1, 1, none⟩) (by simp)).trans (by simp [World.cell?_alloc2_new]); have x2 : w.heap.size + 1 < w1.heap.size := Nat.lt_of_lt_of_le (by simp) hb1.size; have HB := Aside0.mk (chain (below_alloc (below_alloc (Below.refl w.heap.size w) _) _) hb1); clear hb1)
    | (go_at_call 35; with_reducible refine (WX.out _).mono ?_; rintro e w' ⟨rfl, rfl⟩)
    | (go_at_call 35; with_reducible refine (WY.out _).mono ?_; rintro e w' ⟨rfl, rfl⟩))
  go_ret2
  exact ⟨rfl, by repeat (first | exact HB.out | apply below_alloc | apply pw_below_drewN)⟩
set_option maxHeartbeats 4000000 in
set_option maxRecDepth 100000 in
theorem has_far2l (k wd h u s x y : Int) (hc : checkR k wd h u s = 0) (hxy : x < y) (hm : ¬ y < x) (hf0 : ¬ 1099511627776 < y) (hf : x < -1099511627776) (w : World) :
    Calls Tryd.prog 19 #[.agg #[.int .u8 k, .int .i64 wd, .int .i64 h, .int .u8 u, .int .i64 s], .agg #[.int .i64 x, .int .i64 y]] w fun e w' => e = .returned (.tuple #[.bool false, .int .i64 5]) ∧ Below w.heap.size w w' := by
  have hh := home_at k wd h u s
  rw [if_pos hc] at hh
  obtain ⟨⟨wa, wb⟩, ha, hb⟩ := home_ok k wd h u s hc
  have X0 : -65536 ≤ homeX wd ∧ homeX wd ≤ 65536 := by unfold homeX; omega
  have Y0 : -65536 ≤ homeX h ∧ homeX h ≤ 65536 := by unfold homeX; omega
  have k6 := fun (W : World) => topo_Home.calls 5 k wd h u s _ _ _ _ _ W hh
  have wx := fun (W : World) => within x (homeX wd) wd X0.1 X0.2 wa wb W
  have wy := fun (W : World) => within y (homeX h) h Y0.1 Y0.2 ha hb W
  clear hh hc X0 Y0 wa wb ha hb
  generalize homeX wd = X at *
  generalize homeX h = Y at *
  have WX := Lib.hid wx; have WY := Lib.hid wy; clear wx wy
  have K6 := Lib.hid k6; clear k6
  have hu1 := Tryd.underlying23
  have hu2 := Tryd.underlying40
  have hu3 := Tryd.underlying34
  go_enter Tryd.func19, Tryd.ntmps19
  go_wp2_with (first
    | (go_at_call 16; refine (K6.out _).mono ?_; rintro e w1 ⟨rfl, hb1⟩; have x0 : w1.cell? ⟨w.heap.size + 1, 0, none⟩ = some (.int .i64 x) := (hb1.cell (p := ⟨w.heap.size + 1, 0, none⟩) (by simp)).trans (by simp [World.cell?_alloc2_new]); have x1 : w1.cell? ⟨w.heap.size + 1, 1, none⟩ = some (.int .i64 y) := (hb1.cell (p := ⟨w.heap.size + 1, 1, none⟩) (by simp)).trans (by simp [World.cell?_alloc2_new]); have x2 : w.heap.size + 1 < w1.heap.size := Nat.lt_of_lt_of_le (by simp) hb1.size; have HB := Aside0.mk (chain (below_alloc (below_alloc (Below.refl w.heap.size w) _) _) hb1); clear hb1)
    | (go_at_call 35; with_reducible refine (WX.out _).mono ?_; rintro e w' ⟨rfl, rfl⟩)
    | (go_at_call 35; with_reducible refine (WY.out _).mono ?_; rintro e w' ⟨rfl, rfl⟩))
  go_ret2
  exact ⟨rfl, by repeat (first | exact HB.out | apply below_alloc | apply pw_below_drewN)⟩
set_option maxHeartbeats 4000000 in
set_option maxRecDepth 100000 in
theorem has_far1g (k wd h u s x y : Int) (hc : checkR k wd h u s = 0) (hxy : ¬ x < y) (hf : 1099511627776 < x) (w : World) :
    Calls Tryd.prog 19 #[.agg #[.int .u8 k, .int .i64 wd, .int .i64 h, .int .u8 u, .int .i64 s], .agg #[.int .i64 x, .int .i64 y]] w fun e w' => e = .returned (.tuple #[.bool false, .int .i64 5]) ∧ Below w.heap.size w w' := by
  have hh := home_at k wd h u s
  rw [if_pos hc] at hh
  obtain ⟨⟨wa, wb⟩, ha, hb⟩ := home_ok k wd h u s hc
  have X0 : -65536 ≤ homeX wd ∧ homeX wd ≤ 65536 := by unfold homeX; omega
  have Y0 : -65536 ≤ homeX h ∧ homeX h ≤ 65536 := by unfold homeX; omega
  have k6 := fun (W : World) => topo_Home.calls 5 k wd h u s _ _ _ _ _ W hh
  have wx := fun (W : World) => within x (homeX wd) wd X0.1 X0.2 wa wb W
  have wy := fun (W : World) => within y (homeX h) h Y0.1 Y0.2 ha hb W
  clear hh hc X0 Y0 wa wb ha hb
  generalize homeX wd = X at *
  generalize homeX h = Y at *
  have WX := Lib.hid wx; have WY := Lib.hid wy; clear wx wy
  have K6 := Lib.hid k6; clear k6
  have hu1 := Tryd.underlying23
  have hu2 := Tryd.underlying40
  have hu3 := Tryd.underlying34
  go_enter Tryd.func19, Tryd.ntmps19
  go_wp2_with (first
    | (go_at_call 16; refine (K6.out _).mono ?_; rintro e w1 ⟨rfl, hb1⟩; have x0 : w1.cell? ⟨w.heap.size + 1, 0, none⟩ = some (.int .i64 x) := (hb1.cell (p := ⟨w.heap.size + 1, 0, none⟩) (by simp)).trans (by simp [World.cell?_alloc2_new]); have x1 : w1.cell? ⟨w.heap.size + 1, 1, none⟩ = some (.int .i64 y) := (hb1.cell (p := ⟨w.heap.size + 1, 1, none⟩) (by simp)).trans (by simp [World.cell?_alloc2_new]); have x2 : w.heap.size + 1 < w1.heap.size := Nat.lt_of_lt_of_le (by simp) hb1.size; have HB := Aside0.mk (chain (below_alloc (below_alloc (Below.refl w.heap.size w) _) _) hb1); clear hb1)
    | (go_at_call 35; with_reducible refine (WX.out _).mono ?_; rintro e w' ⟨rfl, rfl⟩)
    | (go_at_call 35; with_reducible refine (WY.out _).mono ?_; rintro e w' ⟨rfl, rfl⟩))
  go_ret2
  exact ⟨rfl, by repeat (first | exact HB.out | apply below_alloc | apply pw_below_drewN)⟩
set_option maxHeartbeats 4000000 in
set_option maxRecDepth 100000 in
theorem has_far2g (k wd h u s x y : Int) (hc : checkR k wd h u s = 0) (hxy : ¬ x < y) (hm : y < x) (hf0 : ¬ 1099511627776 < x) (hf : y < -1099511627776) (w : World) :
    Calls Tryd.prog 19 #[.agg #[.int .u8 k, .int .i64 wd, .int .i64 h, .int .u8 u, .int .i64 s], .agg #[.int .i64 x, .int .i64 y]] w fun e w' => e = .returned (.tuple #[.bool false, .int .i64 5]) ∧ Below w.heap.size w w' := by
  have hh := home_at k wd h u s
  rw [if_pos hc] at hh
  obtain ⟨⟨wa, wb⟩, ha, hb⟩ := home_ok k wd h u s hc
  have X0 : -65536 ≤ homeX wd ∧ homeX wd ≤ 65536 := by unfold homeX; omega
  have Y0 : -65536 ≤ homeX h ∧ homeX h ≤ 65536 := by unfold homeX; omega
  have k6 := fun (W : World) => topo_Home.calls 5 k wd h u s _ _ _ _ _ W hh
  have wx := fun (W : World) => within x (homeX wd) wd X0.1 X0.2 wa wb W
  have wy := fun (W : World) => within y (homeX h) h Y0.1 Y0.2 ha hb W
  clear hh hc X0 Y0 wa wb ha hb
  generalize homeX wd = X at *
  generalize homeX h = Y at *
  have WX := Lib.hid wx; have WY := Lib.hid wy; clear wx wy
  have K6 := Lib.hid k6; clear k6
  have hu1 := Tryd.underlying23
  have hu2 := Tryd.underlying40
  have hu3 := Tryd.underlying34
  go_enter Tryd.func19, Tryd.ntmps19
  go_wp2_with (first
    | (go_at_call 16; refine (K6.out _).mono ?_; rintro e w1 ⟨rfl, hb1⟩; have x0 : w1.cell? ⟨w.heap.size + 1, 0, none⟩ = some (.int .i64 x) := (hb1.cell (p := ⟨w.heap.size + 1, 0, none⟩) (by simp)).trans (by simp [World.cell?_alloc2_new]); have x1 : w1.cell? ⟨w.heap.size + 1, 1, none⟩ = some (.int .i64 y) := (hb1.cell (p := ⟨w.heap.size + 1, 1, none⟩) (by simp)).trans (by simp [World.cell?_alloc2_new]); have x2 : w.heap.size + 1 < w1.heap.size := Nat.lt_of_lt_of_le (by simp) hb1.size; have HB := Aside0.mk (chain (below_alloc (below_alloc (Below.refl w.heap.size w) _) _) hb1); clear hb1)
    | (go_at_call 35; with_reducible refine (WX.out _).mono ?_; rintro e w' ⟨rfl, rfl⟩)
    | (go_at_call 35; with_reducible refine (WY.out _).mono ?_; rintro e w' ⟨rfl, rfl⟩))
  go_ret2
  exact ⟨rfl, by repeat (first | exact HB.out | apply below_alloc | apply pw_below_drewN)⟩
set_option maxHeartbeats 4000000 in
set_option maxRecDepth 100000 in
theorem has_far2e (k wd h u s x y : Int) (hc : checkR k wd h u s = 0) (hxy : ¬ x < y) (hm : ¬ y < x) (hf0 : ¬ 1099511627776 < x) (hf : x < -1099511627776) (w : World) :
    Calls Tryd.prog 19 #[.agg #[.int .u8 k, .int .i64 wd, .int .i64 h, .int .u8 u, .int .i64 s], .agg #[.int .i64 x, .int .i64 y]] w fun e w' => e = .returned (.tuple #[.bool false, .int .i64 5]) ∧ Below w.heap.size w w' := by
  have hh := home_at k wd h u s
  rw [if_pos hc] at hh
  obtain ⟨⟨wa, wb⟩, ha, hb⟩ := home_ok k wd h u s hc
  have X0 : -65536 ≤ homeX wd ∧ homeX wd ≤ 65536 := by unfold homeX; omega
  have Y0 : -65536 ≤ homeX h ∧ homeX h ≤ 65536 := by unfold homeX; omega
  have k6 := fun (W : World) => topo_Home.calls 5 k wd h u s _ _ _ _ _ W hh
  have wx := fun (W : World) => within x (homeX wd) wd X0.1 X0.2 wa wb W
  have wy := fun (W : World) => within y (homeX h) h Y0.1 Y0.2 ha hb W
  clear hh hc X0 Y0 wa wb ha hb
  generalize homeX wd = X at *
  generalize homeX h = Y at *
  have WX := Lib.hid wx; have WY := Lib.hid wy; clear wx wy
  have K6 := Lib.hid k6; clear k6
  have hu1 := Tryd.underlying23
  have hu2 := Tryd.underlying40
  have hu3 := Tryd.underlying34
  go_enter Tryd.func19, Tryd.ntmps19
  go_wp2_with (first
    | (go_at_call 16; refine (K6.out _).mono ?_; rintro e w1 ⟨rfl, hb1⟩; have x0 : w1.cell? ⟨w.heap.size + 1, 0, none⟩ = some (.int .i64 x) := (hb1.cell (p := ⟨w.heap.size + 1, 0, none⟩) (by simp)).trans (by simp [World.cell?_alloc2_new]); have x1 : w1.cell? ⟨w.heap.size + 1, 1, none⟩ = some (.int .i64 y) := (hb1.cell (p := ⟨w.heap.size + 1, 1, none⟩) (by simp)).trans (by simp [World.cell?_alloc2_new]); have x2 : w.heap.size + 1 < w1.heap.size := Nat.lt_of_lt_of_le (by simp) hb1.size; have HB := Aside0.mk (chain (below_alloc (below_alloc (Below.refl w.heap.size w) _) _) hb1); clear hb1)
    | (go_at_call 35; with_reducible refine (WX.out _).mono ?_; rintro e w' ⟨rfl, rfl⟩)
    | (go_at_call 35; with_reducible refine (WY.out _).mono ?_; rintro e w' ⟨rfl, rfl⟩))
  go_ret2
  exact ⟨rfl, by repeat (first | exact HB.out | apply below_alloc | apply pw_below_drewN)⟩
set_option maxHeartbeats 4000000 in
set_option maxRecDepth 100000 in
theorem has_inl_true (k wd h u s x y : Int) (hc : checkR k wd h u s = 0) (hxy : x < y) (hm : ¬ y < x) (hf0 : ¬ 1099511627776 < y) (hf : ¬ x < -1099511627776) (hB : withB x (homeX wd) wd = true) (w : World) :
    Calls Tryd.prog 19 #[.agg #[.int .u8 k, .int .i64 wd, .int .i64 h, .int .u8 u, .int .i64 s], .agg #[.int .i64 x, .int .i64 y]] w fun e w' => e = .returned (.tuple #[.bool (withB y (homeX h) h), .int .i64 0]) ∧ Below w.heap.size w w' := by
  have hh := home_at k wd h u s
  rw [if_pos hc] at hh
  obtain ⟨⟨wa, wb⟩, ha, hb⟩ := home_ok k wd h u s hc
  have X0 : -65536 ≤ homeX wd ∧ homeX wd ≤ 65536 := by unfold homeX; omega
  have Y0 : -65536 ≤ homeX h ∧ homeX h ≤ 65536 := by unfold homeX; omega
  have k6 := fun (W : World) => topo_Home.calls 5 k wd h u s _ _ _ _ _ W hh
  have wx := fun (W : World) => within x (homeX wd) wd X0.1 X0.2 wa wb W
  have wy := fun (W : World) => within y (homeX h) h Y0.1 Y0.2 ha hb W
  rw [hB] at wx
  clear hh hc X0 Y0 wa wb ha hb hB
  generalize homeX wd = X at *
  generalize homeX h = Y at *
  generalize withB y Y h = bb at *
  have WX := Lib.hid wx; have WY := Lib.hid wy; clear wx wy
  have K6 := Lib.hid k6; clear k6
  have hu1 := Tryd.underlying23
  have hu2 := Tryd.underlying40
  have hu3 := Tryd.underlying34
  go_enter Tryd.func19, Tryd.ntmps19
  go_wp2_with (first
    | (go_at_call 16; refine (K6.out _).mono ?_; rintro e w1 ⟨rfl, hb1⟩; have x0 : w1.cell? ⟨w.heap.size + 1, 0, none⟩ = some (.int .i64 x) := (hb1.cell (p := ⟨w.heap.size + 1, 0, none⟩) (by simp)).trans (by simp [World.cell?_alloc2_new]); have x1 : w1.cell? ⟨w.heap.size + 1, 1, none⟩ = some (.int .i64 y) := (hb1.cell (p := ⟨w.heap.size + 1, 1, none⟩) (by simp)).trans (by simp [World.cell?_alloc2_new]); have x2 : w.heap.size + 1 < w1.heap.size := Nat.lt_of_lt_of_le (by simp) hb1.size; have HB := Aside0.mk (chain (below_alloc (below_alloc (Below.refl w.heap.size w) _) _) hb1); clear hb1)
    | (go_at_call 35; with_reducible refine (WX.out _).mono ?_; rintro e w' ⟨rfl, rfl⟩)
    | (go_at_call 35; with_reducible refine (WY.out _).mono ?_; rintro e w' ⟨rfl, rfl⟩))
  go_ret2
  exact ⟨rfl, by repeat (first | exact HB.out | apply below_alloc | apply pw_below_drewN)⟩
set_option maxHeartbeats 4000000 in
set_option maxRecDepth 100000 in
theorem has_inl_false (k wd h u s x y : Int) (hc : checkR k wd h u s = 0) (hxy : x < y) (hm : ¬ y < x) (hf0 : ¬ 1099511627776 < y) (hf : ¬ x < -1099511627776) (hB : withB x (homeX wd) wd = false) (w : World) :
    Calls Tryd.prog 19 #[.agg #[.int .u8 k, .int .i64 wd, .int .i64 h, .int .u8 u, .int .i64 s], .agg #[.int .i64 x, .int .i64 y]] w fun e w' => e = .returned (.tuple #[.bool false, .int .i64 0]) ∧ Below w.heap.size w w' := by
  have hh := home_at k wd h u s
  rw [if_pos hc] at hh
  obtain ⟨⟨wa, wb⟩, ha, hb⟩ := home_ok k wd h u s hc
  have X0 : -65536 ≤ homeX wd ∧ homeX wd ≤ 65536 := by unfold homeX; omega
  have Y0 : -65536 ≤ homeX h ∧ homeX h ≤ 65536 := by unfold homeX; omega
  have k6 := fun (W : World) => topo_Home.calls 5 k wd h u s _ _ _ _ _ W hh
  have wx := fun (W : World) => within x (homeX wd) wd X0.1 X0.2 wa wb W
  have wy := fun (W : World) => within y (homeX h) h Y0.1 Y0.2 ha hb W
  rw [hB] at wx
  clear hh hc X0 Y0 wa wb ha hb hB
  generalize homeX wd = X at *
  generalize homeX h = Y at *
  have WX := Lib.hid wx; have WY := Lib.hid wy; clear wx wy
  have K6 := Lib.hid k6; clear k6
  have hu1 := Tryd.underlying23
  have hu2 := Tryd.underlying40
  have hu3 := Tryd.underlying34
  go_enter Tryd.func19, Tryd.ntmps19
  go_wp2_with (first
    | (go_at_call 16; refine (K6.out _).mono ?_; rintro e w1 ⟨rfl, hb1⟩; have x0 : w1.cell? ⟨w.heap.size + 1, 0, none⟩ = some (.int .i64 x) := (hb1.cell (p := ⟨w.heap.size + 1, 0, none⟩) (by simp)).trans (by simp [World.cell?_alloc2_new]); have x1 : w1.cell? ⟨w.heap.size + 1, 1, none⟩ = some (.int .i64 y) := (hb1.cell (p := ⟨w.heap.size + 1, 1, none⟩) (by simp)).trans (by simp [World.cell?_alloc2_new]); have x2 : w.heap.size + 1 < w1.heap.size := Nat.lt_of_lt_of_le (by simp) hb1.size; have HB := Aside0.mk (chain (below_alloc (below_alloc (Below.refl w.heap.size w) _) _) hb1); clear hb1)
    | (go_at_call 35; with_reducible refine (WX.out _).mono ?_; rintro e w' ⟨rfl, rfl⟩)
    | (go_at_call 35; with_reducible refine (WY.out _).mono ?_; rintro e w' ⟨rfl, rfl⟩))
  go_ret2
  exact ⟨rfl, by repeat (first | exact HB.out | apply below_alloc | apply pw_below_drewN)⟩
set_option maxHeartbeats 4000000 in
set_option maxRecDepth 100000 in
theorem has_ing_true (k wd h u s x y : Int) (hc : checkR k wd h u s = 0) (hxy : ¬ x < y) (hm : y < x) (hf0 : ¬ 1099511627776 < x) (hf : ¬ y < -1099511627776) (hB : withB x (homeX wd) wd = true) (w : World) :
    Calls Tryd.prog 19 #[.agg #[.int .u8 k, .int .i64 wd, .int .i64 h, .int .u8 u, .int .i64 s], .agg #[.int .i64 x, .int .i64 y]] w fun e w' => e = .returned (.tuple #[.bool (withB y (homeX h) h), .int .i64 0]) ∧ Below w.heap.size w w' := by
  have hh := home_at k wd h u s
  rw [if_pos hc] at hh
  obtain ⟨⟨wa, wb⟩, ha, hb⟩ := home_ok k wd h u s hc
  have X0 : -65536 ≤ homeX wd ∧ homeX wd ≤ 65536 := by unfold homeX; omega
  have Y0 : -65536 ≤ homeX h ∧ homeX h ≤ 65536 := by unfold homeX; omega
  have k6 := fun (W : World) => topo_Home.calls 5 k wd h u s _ _ _ _ _ W hh
  have wx := fun (W : World) => within x (homeX wd) wd X0.1 X0.2 wa wb W
  have wy := fun (W : World) => within y (homeX h) h Y0.1 Y0.2 ha hb W
  rw [hB] at wx
  clear hh hc X0 Y0 wa wb ha hb hB
  generalize homeX wd = X at *
  generalize homeX h = Y at *
  generalize withB y Y h = bb at *
  have WX := Lib.hid wx; have WY := Lib.hid wy; clear wx wy
  have K6 := Lib.hid k6; clear k6
  have hu1 := Tryd.underlying23
  have hu2 := Tryd.underlying40
  have hu3 := Tryd.underlying34
  go_enter Tryd.func19, Tryd.ntmps19
  go_wp2_with (first
    | (go_at_call 16; refine (K6.out _).mono ?_; rintro e w1 ⟨rfl, hb1⟩; have x0 : w1.cell? ⟨w.heap.size + 1, 0, none⟩ = some (.int .i64 x) := (hb1.cell (p := ⟨w.heap.size + 1, 0, none⟩) (by simp)).trans (by simp [World.cell?_alloc2_new]); have x1 : w1.cell? ⟨w.heap.size + 1, 1, none⟩ = some (.int .i64 y) := (hb1.cell (p := ⟨w.heap.size + 1, 1, none⟩) (by simp)).trans (by simp [World.cell?_alloc2_new]); have x2 : w.heap.size + 1 < w1.heap.size := Nat.lt_of_lt_of_le (by simp) hb1.size; have HB := Aside0.mk (chain (below_alloc (below_alloc (Below.refl w.heap.size w) _) _) hb1); clear hb1)
    | (go_at_call 35; with_reducible refine (WX.out _).mono ?_; rintro e w' ⟨rfl, rfl⟩)
    | (go_at_call 35; with_reducible refine (WY.out _).mono ?_; rintro e w' ⟨rfl, rfl⟩))
  go_ret2
  exact ⟨rfl, by repeat (first | exact HB.out | apply below_alloc | apply pw_below_drewN)⟩
set_option maxHeartbeats 4000000 in
set_option maxRecDepth 100000 in
theorem has_ing_false (k wd h u s x y : Int) (hc : checkR k wd h u s = 0) (hxy : ¬ x < y) (hm : y < x) (hf0 : ¬ 1099511627776 < x) (hf : ¬ y < -1099511627776) (hB : withB x (homeX wd) wd = false) (w : World) :
    Calls Tryd.prog 19 #[.agg #[.int .u8 k, .int .i64 wd, .int .i64 h, .int .u8 u, .int .i64 s], .agg #[.int .i64 x, .int .i64 y]] w fun e w' => e = .returned (.tuple #[.bool false, .int .i64 0]) ∧ Below w.heap.size w w' := by
  have hh := home_at k wd h u s
  rw [if_pos hc] at hh
  obtain ⟨⟨wa, wb⟩, ha, hb⟩ := home_ok k wd h u s hc
  have X0 : -65536 ≤ homeX wd ∧ homeX wd ≤ 65536 := by unfold homeX; omega
  have Y0 : -65536 ≤ homeX h ∧ homeX h ≤ 65536 := by unfold homeX; omega
  have k6 := fun (W : World) => topo_Home.calls 5 k wd h u s _ _ _ _ _ W hh
  have wx := fun (W : World) => within x (homeX wd) wd X0.1 X0.2 wa wb W
  have wy := fun (W : World) => within y (homeX h) h Y0.1 Y0.2 ha hb W
  rw [hB] at wx
  clear hh hc X0 Y0 wa wb ha hb hB
  generalize homeX wd = X at *
  generalize homeX h = Y at *
  have WX := Lib.hid wx; have WY := Lib.hid wy; clear wx wy
  have K6 := Lib.hid k6; clear k6
  have hu1 := Tryd.underlying23
  have hu2 := Tryd.underlying40
  have hu3 := Tryd.underlying34
  go_enter Tryd.func19, Tryd.ntmps19
  go_wp2_with (first
    | (go_at_call 16; refine (K6.out _).mono ?_; rintro e w1 ⟨rfl, hb1⟩; have x0 : w1.cell? ⟨w.heap.size + 1, 0, none⟩ = some (.int .i64 x) := (hb1.cell (p := ⟨w.heap.size + 1, 0, none⟩) (by simp)).trans (by simp [World.cell?_alloc2_new]); have x1 : w1.cell? ⟨w.heap.size + 1, 1, none⟩ = some (.int .i64 y) := (hb1.cell (p := ⟨w.heap.size + 1, 1, none⟩) (by simp)).trans (by simp [World.cell?_alloc2_new]); have x2 : w.heap.size + 1 < w1.heap.size := Nat.lt_of_lt_of_le (by simp) hb1.size; have HB := Aside0.mk (chain (below_alloc (below_alloc (Below.refl w.heap.size w) _) _) hb1); clear hb1)
    | (go_at_call 35; with_reducible refine (WX.out _).mono ?_; rintro e w' ⟨rfl, rfl⟩)
    | (go_at_call 35; with_reducible refine (WY.out _).mono ?_; rintro e w' ⟨rfl, rfl⟩))
  go_ret2
  exact ⟨rfl, by repeat (first | exact HB.out | apply below_alloc | apply pw_below_drewN)⟩
set_option maxHeartbeats 4000000 in
set_option maxRecDepth 100000 in
theorem has_ine_true (k wd h u s x y : Int) (hc : checkR k wd h u s = 0) (hxy : ¬ x < y) (hm : ¬ y < x) (hf0 : ¬ 1099511627776 < x) (hf : ¬ x < -1099511627776) (hB : withB x (homeX wd) wd = true) (w : World) :
    Calls Tryd.prog 19 #[.agg #[.int .u8 k, .int .i64 wd, .int .i64 h, .int .u8 u, .int .i64 s], .agg #[.int .i64 x, .int .i64 y]] w fun e w' => e = .returned (.tuple #[.bool (withB y (homeX h) h), .int .i64 0]) ∧ Below w.heap.size w w' := by
  have hh := home_at k wd h u s
  rw [if_pos hc] at hh
  obtain ⟨⟨wa, wb⟩, ha, hb⟩ := home_ok k wd h u s hc
  have X0 : -65536 ≤ homeX wd ∧ homeX wd ≤ 65536 := by unfold homeX; omega
  have Y0 : -65536 ≤ homeX h ∧ homeX h ≤ 65536 := by unfold homeX; omega
  have k6 := fun (W : World) => topo_Home.calls 5 k wd h u s _ _ _ _ _ W hh
  have wx := fun (W : World) => within x (homeX wd) wd X0.1 X0.2 wa wb W
  have wy := fun (W : World) => within y (homeX h) h Y0.1 Y0.2 ha hb W
  rw [hB] at wx
  clear hh hc X0 Y0 wa wb ha hb hB
  generalize homeX wd = X at *
  generalize homeX h = Y at *
  generalize withB y Y h = bb at *
  have WX := Lib.hid wx; have WY := Lib.hid wy; clear wx wy
  have K6 := Lib.hid k6; clear k6
  have hu1 := Tryd.underlying23
  have hu2 := Tryd.underlying40
  have hu3 := Tryd.underlying34
  go_enter Tryd.func19, Tryd.ntmps19
  go_wp2_with (first
    | (go_at_call 16; refine (K6.out _).mono ?_; rintro e w1 ⟨rfl, hb1⟩; have x0 : w1.cell? ⟨w.heap.size + 1, 0, none⟩ = some (.int .i64 x) := (hb1.cell (p := ⟨w.heap.size + 1, 0, none⟩) (by simp)).trans (by simp [World.cell?_alloc2_new]); have x1 : w1.cell? ⟨w.heap.size + 1, 1, none⟩ = some (.int .i64 y) := (hb1.cell (p := ⟨w.heap.size + 1, 1, none⟩) (by simp)).trans (by simp [World.cell?_alloc2_new]); have x2 : w.heap.size + 1 < w1.heap.size := Nat.lt_of_lt_of_le (by simp) hb1.size; have HB := Aside0.mk (chain (below_alloc (below_alloc (Below.refl w.heap.size w) _) _) hb1); clear hb1)
    | (go_at_call 35; with_reducible refine (WX.out _).mono ?_; rintro e w' ⟨rfl, rfl⟩)
    | (go_at_call 35; with_reducible refine (WY.out _).mono ?_; rintro e w' ⟨rfl, rfl⟩))
  go_ret2
  exact ⟨rfl, by repeat (first | exact HB.out | apply below_alloc | apply pw_below_drewN)⟩
set_option maxHeartbeats 4000000 in
set_option maxRecDepth 100000 in
theorem has_ine_false (k wd h u s x y : Int) (hc : checkR k wd h u s = 0) (hxy : ¬ x < y) (hm : ¬ y < x) (hf0 : ¬ 1099511627776 < x) (hf : ¬ x < -1099511627776) (hB : withB x (homeX wd) wd = false) (w : World) :
    Calls Tryd.prog 19 #[.agg #[.int .u8 k, .int .i64 wd, .int .i64 h, .int .u8 u, .int .i64 s], .agg #[.int .i64 x, .int .i64 y]] w fun e w' => e = .returned (.tuple #[.bool false, .int .i64 0]) ∧ Below w.heap.size w w' := by
  have hh := home_at k wd h u s
  rw [if_pos hc] at hh
  obtain ⟨⟨wa, wb⟩, ha, hb⟩ := home_ok k wd h u s hc
  have X0 : -65536 ≤ homeX wd ∧ homeX wd ≤ 65536 := by unfold homeX; omega
  have Y0 : -65536 ≤ homeX h ∧ homeX h ≤ 65536 := by unfold homeX; omega
  have k6 := fun (W : World) => topo_Home.calls 5 k wd h u s _ _ _ _ _ W hh
  have wx := fun (W : World) => within x (homeX wd) wd X0.1 X0.2 wa wb W
  have wy := fun (W : World) => within y (homeX h) h Y0.1 Y0.2 ha hb W
  rw [hB] at wx
  clear hh hc X0 Y0 wa wb ha hb hB
  generalize homeX wd = X at *
  generalize homeX h = Y at *
  have WX := Lib.hid wx; have WY := Lib.hid wy; clear wx wy
  have K6 := Lib.hid k6; clear k6
  have hu1 := Tryd.underlying23
  have hu2 := Tryd.underlying40
  have hu3 := Tryd.underlying34
  go_enter Tryd.func19, Tryd.ntmps19
  go_wp2_with (first
    | (go_at_call 16; refine (K6.out _).mono ?_; rintro e w1 ⟨rfl, hb1⟩; have x0 : w1.cell? ⟨w.heap.size + 1, 0, none⟩ = some (.int .i64 x) := (hb1.cell (p := ⟨w.heap.size + 1, 0, none⟩) (by simp)).trans (by simp [World.cell?_alloc2_new]); have x1 : w1.cell? ⟨w.heap.size + 1, 1, none⟩ = some (.int .i64 y) := (hb1.cell (p := ⟨w.heap.size + 1, 1, none⟩) (by simp)).trans (by simp [World.cell?_alloc2_new]); have x2 : w.heap.size + 1 < w1.heap.size := Nat.lt_of_lt_of_le (by simp) hb1.size; have HB := Aside0.mk (chain (below_alloc (below_alloc (Below.refl w.heap.size w) _) _) hb1); clear hb1)
    | (go_at_call 35; with_reducible refine (WX.out _).mono ?_; rintro e w' ⟨rfl, rfl⟩)
    | (go_at_call 35; with_reducible refine (WY.out _).mono ?_; rintro e w' ⟨rfl, rfl⟩))
  go_ret2
  exact ⟨rfl, by repeat (first | exact HB.out | apply below_alloc | apply pw_below_drewN)⟩
/-- topo.Has, whole. -/
theorem has_any (k wd h u s x y : Int) (w : World) :
    Calls Tryd.prog 19 #[.agg #[.int .u8 k, .int .i64 wd, .int .i64 h, .int .u8 u, .int .i64 s], .agg #[.int .i64 x, .int .i64 y]] w fun e w' => e = .returned (.tuple #[.bool (hasB k wd h u s x y), .int .i64 (hasE k wd h u s x y)]) ∧ Below w.heap.size w w' := by
  unfold hasB hasE
  by_cases hc : checkR k wd h u s = 0
  · rw [if_pos hc, if_pos hc]
    by_cases hf : far x y = true
    · rw [if_pos hf, if_pos hf]
      have hf := of_decide_eq_true hf
      by_cases hxy : x < y
      · by_cases h1 : 1099511627776 < y
        · exact has_far1l k wd h u s x y hc hxy h1 w
        · exact has_far2l k wd h u s x y hc hxy (by omega) h1 (by omega) w
      · by_cases h1 : 1099511627776 < x
        · exact has_far1g k wd h u s x y hc hxy h1 w
        · by_cases hyx : y < x
          · exact has_far2g k wd h u s x y hc hxy hyx h1 (by omega) w
          · exact has_far2e k wd h u s x y hc hxy hyx h1 (by omega) w
    · rw [if_neg hf, if_neg hf]
      have hf : ¬ (x > 1099511627776 ∨ x < -1099511627776 ∨ y > 1099511627776 ∨ y < -1099511627776) := fun z => hf (decide_eq_true z)
      cases hB : withB x (homeX wd) wd
      · rw [Bool.false_and]
        by_cases hxy : x < y
        · exact has_inl_false k wd h u s x y hc hxy (by omega) (by omega) (by omega) hB w
        · by_cases hyx : y < x
          · exact has_ing_false k wd h u s x y hc hxy hyx (by omega) (by omega) hB w
          · exact has_ine_false k wd h u s x y hc hxy hyx (by omega) (by omega) hB w
      · rw [Bool.true_and]
        by_cases hxy : x < y
        · exact has_inl_true k wd h u s x y hc hxy (by omega) (by omega) (by omega) hB w
        · by_cases hyx : y < x
          · exact has_ing_true k wd h u s x y hc hxy hyx (by omega) (by omega) hB w
          · exact has_ine_true k wd h u s x y hc hxy hyx (by omega) (by omega) hB w
  · rw [if_neg hc, if_neg hc]
    exact has_bad k wd h u s x y hc w
end Go.Proofs.YtmcidodpnhkdfaaDoor.HasWalk
