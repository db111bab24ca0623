/- What the row of this claim leans on, part 4. -/
import Derived.Test.YtbnonnogkgbpiaaDoorKBack3
section
namespace Go.Proofs.YtbnonnogkgbpiaaDoor.Reader
open Go Go.RowKit Go.Proofs.YtbnonnogkgbpiaaDoorW.PrintWords Go.Proofs.YtbnonnogkgbpiaaDoorW.PrintLast Go.Proofs.YtbnonnogkgbpiaaDoorW.PrintMore
set_option linter.unusedVariables false
set_option linter.unusedSimpArgs false
def pfx (k n : Nat) : Array Bool := ((List.range n).map fun i => decide (i < k)).toArray
def T56_3 : Bool × List (List Nat × List Nat) := (true, [([], []), ([0], [0]), ([1], [1]), ([2], [2]), ([], []), ([4], [4]), ([5], [5]), ([6], [6]), ([7], [7]), ([3, 8], [3, 8]), ([9], [9]), ([10], [10]), ([11, 10], [10, 11]), ([12, 10], [10, 12]), ([13, 10], [10, 13]), ([10], [10]), ([15, 10], [10, 15]), ([16, 10], [10, 16]), ([17, 10], [10, 17]), ([14, 18, 10], [10, 14, 18]), ([10], [10]), ([10], [10]), ([20, 21, 10], [10, 20, 21]), ([19, 22, 10], [10, 19, 22]), ([10, 23], [10, 23])])
def B56_3 : List Nat := [0, 1, 3, 7, 0, 16, 48, 112, 240, 511, 1023, 2047, 4095, 8191, 16383, 2047, 34815, 100351, 231423, 524287, 2047, 2047, 3147775, 8388607, 16777215]
theorem tab56_3 : rtab .any (opsOf Tryd.f56 3) = T56_3 := by kernel_rfl
theorem bits56_3 : waitsOk T56_3.2 B56_3 = true := by kernel_rfl
def T58_1 : Bool × List (List Nat × List Nat) := (true, [([], []), ([0], [0]), ([1], [1]), ([2], [2]), ([3], [3]), ([4], [4]), ([5, 4], [4, 5]), ([6, 4], [4, 6]), ([7, 4], [4, 7]), ([4], [4]), ([9, 4], [4, 9]), ([10, 4], [4, 10]), ([11, 4], [4, 11]), ([12, 4], [4, 12]), ([8, 13, 4], [4, 8, 13]), ([4, 14], [4, 14]), ([15, 4], [15]), ([16], [16]), ([17, 16], [16, 17]), ([18, 16], [16, 18]), ([19, 16], [16, 19]), ([16], [16]), ([21, 16], [16, 21]), ([22, 16], [16, 22]), ([23, 16], [16, 23]), ([20, 24, 16], [16, 20, 24]), ([16], [16]), ([25, 26, 16], [16, 25, 26]), ([16, 27], [16, 27]), ([28, 16, 0, 1, 2, 3, 4, 5, 6, 7, 8, 9, 10, 11, 12, 13, 14, 15, 16, 17, 18, 19, 20, 21, 22, 23, 24, 25, 26, 27, 28], [28])])
def B58_1 : List Nat := [0, 1, 3, 7, 15, 31, 63, 127, 255, 31, 543, 1567, 3615, 7711, 16383, 32767, 65535, 131071, 262143, 524287, 1048575, 131071, 2228223, 6422527, 14811135, 33554431, 131071, 134217727, 268435455, 536870911]
theorem tab58_1 : rtab .any (opsOf Tryd.f58 1) = T58_1 := by kernel_rfl
theorem bits58_1 : waitsOk T58_1.2 B58_1 = true := by kernel_rfl
def tk (s p : ByteArray) : Nat → Nat → Nat → Nat × Bool
  | 0, i, a => (a, true)
  | d + 1, i, a => if a = s.size ∨ bt s a ≠ bt p i then (a, false) else tk s p d (i + 1) (a + 1)
def tkP (s p : ByteArray) (a : Nat) (ok : Bool) : Nat × Bool := if ok = true then tk s p p.size 0 a else (a, false)
def nx (s : ByteArray) (a : Nat) (ok : Bool) (c : Int) : Bool := ok && decide (a < s.size) && decide (bt s a = c)
def nm (s : ByteArray) (fr : Nat) : Nat → Nat → Nat → Nat × Nat
  | 0, a, n => (a, n)
  | d + 1, a, n => if 48 ≤ bt s a ∧ bt s a ≤ 57 ∧ a < fr + 9 ∧ (0 < n ∨ a = fr) then nm s fr d (a + 1) (10 * n + (bt s a - 48).toNat) else (a, n)
def nmP (s : ByteArray) (a : Nat) (ok : Bool) : Nat × Bool × Nat := if ok = true then ((nm s a (s.size - a) a 0).1, decide ((nm s a (s.size - a) a 0).1 ≠ a), (nm s a (s.size - a) a 0).2) else (a, false, 0)
def RdAt (W : World) (r : Nat) (s : ByteArray) (a : Nat) (ok : Bool) : Prop := W.heap[r]? = some (.cells #[.string s, .int .i64 (a : Int), .bool ok] 100 (0, 0))
theorem RdAt.cells {W : World} {r : Nat} {s : ByteArray} {a : Nat} {ok : Bool} (h : RdAt W r s a ok) : (W.cell? ⟨r, 0, none⟩ = some (.string s) ∧ W.cell? ⟨r, 1, none⟩ = some (.int .i64 (a : Int)) ∧ W.cell? ⟨r, 2, none⟩ = some (.bool ok)) ∧ W.frozen? ⟨r, 1, none⟩ = false ∧ W.frozen? ⟨r, 2, none⟩ = false :=
  ⟨⟨(blk_cell h 0).trans rfl, (blk_cell h 1).trans rfl, (blk_cell h 2).trans rfl⟩, blk_frozen h 1, blk_frozen h 2⟩
theorem RdAt.lt {W : World} {r : Nat} {s : ByteArray} {a : Nat} {ok : Bool} (h : RdAt W r s a ok) : r < W.heap.size := blk_lt h
theorem RdAt.drew {W : World} {r : Nat} {s : ByteArray} {a : Nat} {ok : Bool} (h : RdAt W r s a ok) : RdAt W.drew r s a ok := h
theorem RdAt.as {W : World} {r : Nat} {s : ByteArray} {a : Nat} {ok ok' : Bool} (h : RdAt W r s a ok) (e : ok' = ok) : RdAt W r s a ok' := e ▸ h
theorem beqN {a b : Nat} (h : ¬ a = b) : ((a : Int) == (b : Int)) = false := by rw [beq_eq_false_iff_ne]; omega
theorem RdAt.fail {W : World} {r : Nat} {s : ByteArray} {a : Nat} {ok : Bool} (h : RdAt W r s a ok) : RdAt (W.setCell ⟨r, 2, none⟩ (.bool false)) r s a false := blk_put h 2 (.bool false) rfl
theorem RdAt.to {W : World} {r : Nat} {s : ByteArray} {a : Nat} {ok : Bool} (h : RdAt W r s a ok) (b : Int) (hb : b = ((a + 1 : Nat) : Int)) : RdAt (W.setCell ⟨r, 1, none⟩ (.int .i64 b)) r s (a + 1) ok := by
  subst hb
  exact blk_put h 1 _ rfl
set_option maxHeartbeats 4000000 in
set_option maxRecDepth 100000 in
theorem takes_calls (s p : ByteArray) (r a : Nat) (ok : Bool) (w : World) (h : RdAt w r s a ok) (ha : a ≤ s.size) (hs : s.size ≤ 1048576) (hp : p.size ≤ 1048576) :
    Calls Tryd.prog 56 #[.pointer (some ⟨r, 0, none⟩), .string p] w fun e w' => e = .returned (.tuple #[]) ∧ RdAt w' r s (tkP s p a ok).1 (tkP s p a ok).2 ∧ w.grownBy w' (some r) := by
  have HS := Aside0.mk hs
  have HP := Aside0.mk hp
  have HH := Aside0.mk h
  have HA := Aside0.mk ha
  clear h hs hp ha
  cases ok
  · have e0 : tkP s p a false = (a, false) := rfl
    rw [e0]
    go_enter Tryd.func56, Tryd.ntmps56
    go_wp2
    go_loopg [4] 1 (fun g_ s4 wq => s4 = .int .i64 0 ∧ Aside0 (wq = w))
    case atStart => exact ⟨rfl, ⟨rfl⟩⟩
    case round =>
      obtain ⟨rfl, HW⟩ := hrel
      obtain rfl := HW.out
      obtain ⟨⟨c0, c1, c2⟩, z1, z2⟩ := HH.out.cells
      go_wp2
      exact bodyPost_end (results_none rfl _ _ _) rfl ⟨rfl, HH.out, World.grownBy.refl _ _⟩
  · have e0 : tkP s p a true = tk s p p.size 0 a := rfl
    rw [e0]
    go_enter Tryd.func56, Tryd.ntmps56
    go_wp2
    go_loopg [4] p.size (fun g_ s4 wq => ∃ (i b : Nat), s4 = .int .i64 (i : Int) ∧ Aside0 (i + g_ = p.size ∧ b ≤ s.size ∧ tk s p p.size 0 a = tk s p g_ i b) ∧ Aside0 (RdAt wq r s b true) ∧ Aside0 (w.grownBy wq (some r)))
    case atStart => exact ⟨0, a, rfl, ⟨by omega, HA.out, rfl⟩, HH, ⟨World.grownBy.refl _ _⟩⟩
    case round =>
      obtain ⟨i, b, rfl, HX, HR, HG⟩ := hrel
      obtain ⟨⟨c0, c1, c2⟩, z1, z2⟩ := HR.out.cells
      by_cases q : i < p.size
      case neg =>
        go_wp2
        have e1 : tk s p p.size 0 a = (b, true) := by
          have h := HX.out.2.2
          rw [show gk = 0 by have := HX.out.1; omega] at h
          exact h
        rw [e1]
        exact bodyPost_end (results_none rfl _ _ _) rfl ⟨rfl, HR.out, HG.out⟩
      case pos =>
        obtain ⟨m, rfl⟩ : ∃ d, gk = d + 1 := ⟨gk - 1, by have := HX.out.1; omega⟩
        have x1 : ∀ h : i < p.size, ((p[i]'h).toNat : Int) = bt p (i : Int) := bt_at p (i : Int)
        have x2 : ∀ h : b < s.size, ((s[b]'h).toNat : Int) = bt s (b : Int) := bt_at s (b : Int)
        have w1_ : wrap64 ((b : Int) + 1) = (b : Int) + 1 := by have := HS.out; have := HX.out.2.1; unfold wrap64; omega
        have w2_ : wrap64 ((i : Int) + 1) = (i : Int) + 1 := by have := HP.out; unfold wrap64; omega
        go_upto_region 3 with fail
        by_cases q1 : b = s.size
        · have e1 : tk s p p.size 0 a = (b, false) := by
            rw [HX.out.2.2, tk, if_pos (.inl q1)]
          have q1' : ((b : Int) == (s.size : Int)) = true := by simp [q1]
          refine start_ (n := 25) (S := fun w' => w'.cell? ⟨r, 0, none⟩ = some (.string s) ∧ w'.cell? ⟨r, 1, none⟩ = some (.int .i64 (b : Int)) ∧ w'.cell? ⟨r, 2, none⟩ = some (.bool true)) (ds := []) (pfx 0 25) (by kernel_rfl) rfl (by kernel_rfl) ⟨c0, c1, c2⟩ (fun hHeld => ?_)
          refine with_tabW tab56_3 bits56_3 (fun HT_ HW_ => ?_)
          refine pure_ (i := 0) (N := (some 17)) (v := ?_) (a' := ?_) (pfx 1 25) rfl rfl (any_of HT_.out (by kernel_rfl)) (fun _ _ _ h => h) (Or.inl ⟨by rfl, ?_⟩) ?_ ?_
          rotate_left
          · intro w'
            go_simp
            with_reducible rfl
          rotate_left
          · simp only [Act.put, List.setIfInBounds_toArray, List.set_cons_zero, List.set_cons_succ, i64_w, i32_w]
            rfl
          refine pure_ (i := 1) (N := (some 18)) (v := ?_) (a' := ?_) (pfx 2 25) rfl rfl (any_of HT_.out (by kernel_rfl)) (fun _ _ _ h => h) (Or.inl ⟨by rfl, ?_⟩) ?_ ?_
          rotate_left
          · intro w'
            go_simp
            with_reducible rfl
          rotate_left
          · simp only [Act.put, List.setIfInBounds_toArray, List.set_cons_zero, List.set_cons_succ, i64_w, i32_w]
            rfl
          refine pure_ (i := 2) (N := (some 19)) (v := ?_) (a' := ?_) (pfx 3 25) rfl rfl (any_of HT_.out (by kernel_rfl)) (fun _ _ _ h => h) (Or.inl ⟨by rfl, ?_⟩) ?_ ?_
          rotate_left
          · intro w'
            go_simp
            with_reducible rfl
          rotate_left
          · simp only [Act.put, List.setIfInBounds_toArray, List.set_cons_zero, List.set_cons_succ, i64_w, i32_w]
            rfl
          refine take_ (i := 3) (N := (some 20)) (v := ?_) (a' := ?_) (pfx 4 25) rfl rfl (take_ofW HT_.out HW_.out (by kernel_rfl)) (fun _ _ _ h => h) (Or.inl ⟨by rfl, ?_⟩) hHeld ?_ ?_
          rotate_left
          · rintro w' ⟨s0, s1, s2⟩
            go_simp
            with_reducible rfl
          rotate_left
          · simp only [Act.put, List.setIfInBounds_toArray, List.set_cons_zero, List.set_cons_succ, i64_w, i32_w]
            rfl
          refine pure_ (i := 4) (N := (some 21)) (v := ?_) (a' := ?_) (pfx 5 25) rfl rfl (any_of HT_.out (by kernel_rfl)) (fun _ _ _ h => h) (Or.inl ⟨by rfl, ?_⟩) ?_ ?_
          rotate_left
          · intro w'
            go_simp
            with_reducible rfl
          rotate_left
          · simp only [Act.put, List.setIfInBounds_toArray, List.set_cons_zero, List.set_cons_succ, i64_w, i32_w]
            rfl
          refine pure_ (i := 5) (N := (some 22)) (v := ?_) (a' := ?_) (pfx 6 25) rfl rfl (any_of HT_.out (by kernel_rfl)) (fun _ _ _ h => h) (Or.inl ⟨by rfl, ?_⟩) ?_ ?_
          rotate_left
          · intro w'
            go_simp
            with_reducible rfl
          rotate_left
          · simp only [Act.put, List.setIfInBounds_toArray, List.set_cons_zero, List.set_cons_succ, i64_w, i32_w]
            rfl
          refine pure_ (i := 6) (N := (some 23)) (v := ?_) (a' := ?_) (pfx 7 25) rfl rfl (any_of HT_.out (by kernel_rfl)) (fun _ _ _ h => h) (Or.inl ⟨by rfl, ?_⟩) ?_ ?_
          rotate_left
          · intro w'
            go_simp
            with_reducible rfl
          rotate_left
          · simp only [Act.put, List.setIfInBounds_toArray, List.set_cons_zero, List.set_cons_succ, i64_w, i32_w]
            rfl
          refine take_ (i := 7) (N := (some 24)) (v := ?_) (a' := ?_) (pfx 8 25) rfl rfl (take_ofW HT_.out HW_.out (by kernel_rfl)) (fun _ _ _ h => h) (Or.inl ⟨by rfl, ?_⟩) hHeld ?_ ?_
          rotate_left
          · rintro w' ⟨s0, s1, s2⟩
            go_simp
            with_reducible rfl
          rotate_left
          · simp only [Act.put, List.setIfInBounds_toArray, List.set_cons_zero, List.set_cons_succ, i64_w, i32_w]
            rfl
          refine pure_ (i := 8) (N := (some 25)) (v := ?_) (a' := ?_) (pfx 9 25) rfl rfl (any_of HT_.out (by kernel_rfl)) (fun _ _ _ h => h) (Or.inl ⟨by rfl, ?_⟩) ?_ ?_
          rotate_left
          · intro w'
            go_simp
            with_reducible rfl
          rotate_left
          · simp only [Act.put, List.setIfInBounds_toArray, List.set_cons_zero, List.set_cons_succ, i64_w, i32_w]
            rfl
          refine pure_ (i := 9) (N := (some 26)) (v := ?_) (a' := ?_) (pfx 10 25) rfl rfl (any_of HT_.out (by kernel_rfl)) (fun _ _ _ h => h) (Or.inl ⟨by rfl, ?_⟩) ?_ ?_
          rotate_left
          · intro w'
            go_simp
            with_reducible rfl
          rotate_left
          · simp only [Act.put, List.setIfInBounds_toArray, List.set_cons_zero, List.set_cons_succ, i64_w, i32_w]
            rfl
          refine pure_ (i := 10) (N := (some 27)) (v := ?_) (a' := ?_) (pfx 11 25) rfl rfl (any_of HT_.out (by kernel_rfl)) (fun _ _ _ h => h) (Or.inl ⟨by rfl, ?_⟩) ?_ ?_
          rotate_left
          · intro w'
            go_simp
            with_reducible rfl
          rotate_left
          · simp only [Act.put, List.setIfInBounds_toArray, List.set_cons_zero, List.set_cons_succ, i64_w, i32_w]
            rfl
          refine pure_ (i := 11) (N := (some 28)) (v := undef) (a' := ?_) (pfx 12 25) rfl rfl (any_of HT_.out (by kernel_rfl)) (fun _ _ _ h => h) (Or.inr ⟨by rfl, rfl⟩) ?_ ?_
          rotate_left
          · simp only [Act.put, List.setIfInBounds_toArray, List.set_cons_zero, List.set_cons_succ, i64_w, i32_w]
            rfl
          refine pure_ (i := 12) (N := (some 29)) (v := undef) (a' := ?_) (pfx 13 25) rfl rfl (any_of HT_.out (by kernel_rfl)) (fun _ _ _ h => h) (Or.inr ⟨by rfl, rfl⟩) ?_ ?_
          rotate_left
          · simp only [Act.put, List.setIfInBounds_toArray, List.set_cons_zero, List.set_cons_succ, i64_w, i32_w]
            rfl
          refine pure_ (i := 13) (N := (some 30)) (v := undef) (a' := ?_) (pfx 14 25) rfl rfl (any_of HT_.out (by kernel_rfl)) (fun _ _ _ h => h) (Or.inr ⟨by rfl, rfl⟩) ?_ ?_
          rotate_left
          · simp only [Act.put, List.setIfInBounds_toArray, List.set_cons_zero, List.set_cons_succ, i64_w, i32_w]
            rfl
          refine pure_ (i := 14) (N := (some 31)) (v := undef) (a' := ?_) (pfx 15 25) rfl rfl (any_of HT_.out (by kernel_rfl)) (fun _ _ _ h => h) (Or.inr ⟨by rfl, rfl⟩) ?_ ?_
          rotate_left
          · simp only [Act.put, List.setIfInBounds_toArray, List.set_cons_zero, List.set_cons_succ, i64_w, i32_w]
            rfl
          refine pure_ (i := 15) (N := (some 32)) (v := undef) (a' := ?_) (pfx 16 25) rfl rfl (any_of HT_.out (by kernel_rfl)) (fun _ _ _ h => h) (Or.inr ⟨by rfl, rfl⟩) ?_ ?_
          rotate_left
          · simp only [Act.put, List.setIfInBounds_toArray, List.set_cons_zero, List.set_cons_succ, i64_w, i32_w]
            rfl
          refine pure_ (i := 16) (N := (some 33)) (v := undef) (a' := ?_) (pfx 17 25) rfl rfl (any_of HT_.out (by kernel_rfl)) (fun _ _ _ h => h) (Or.inr ⟨by rfl, rfl⟩) ?_ ?_
          rotate_left
          · simp only [Act.put, List.setIfInBounds_toArray, List.set_cons_zero, List.set_cons_succ, i64_w, i32_w]
            rfl
          refine pure_ (i := 17) (N := (some 34)) (v := undef) (a' := ?_) (pfx 18 25) rfl rfl (any_of HT_.out (by kernel_rfl)) (fun _ _ _ h => h) (Or.inr ⟨by rfl, rfl⟩) ?_ ?_
          rotate_left
          · simp only [Act.put, List.setIfInBounds_toArray, List.set_cons_zero, List.set_cons_succ, i64_w, i32_w]
            rfl
          refine pure_ (i := 18) (N := (some 35)) (v := undef) (a' := ?_) (pfx 19 25) rfl rfl (any_of HT_.out (by kernel_rfl)) (fun _ _ _ h => h) (Or.inr ⟨by rfl, rfl⟩) ?_ ?_
          rotate_left
          · simp only [Act.put, List.setIfInBounds_toArray, List.set_cons_zero, List.set_cons_succ, i64_w, i32_w]
            rfl
          refine pure_ (i := 19) (N := (some 36)) (v := undef) (a' := ?_) (pfx 20 25) rfl rfl (any_of HT_.out (by kernel_rfl)) (fun _ _ _ h => h) (Or.inr ⟨by rfl, rfl⟩) ?_ ?_
          rotate_left
          · simp only [Act.put, List.setIfInBounds_toArray, List.set_cons_zero, List.set_cons_succ, i64_w, i32_w]
            rfl
          refine pure_ (i := 20) (N := (some 37)) (v := undef) (a' := ?_) (pfx 21 25) rfl rfl (any_of HT_.out (by kernel_rfl)) (fun _ _ _ h => h) (Or.inr ⟨by rfl, rfl⟩) ?_ ?_
          rotate_left
          · simp only [Act.put, List.setIfInBounds_toArray, List.set_cons_zero, List.set_cons_succ, i64_w, i32_w]
            rfl
          refine pure_ (i := 21) (N := (some 38)) (v := undef) (a' := ?_) (pfx 22 25) rfl rfl (any_of HT_.out (by kernel_rfl)) (fun _ _ _ h => h) (Or.inr ⟨by rfl, rfl⟩) ?_ ?_
          rotate_left
          · simp only [Act.put, List.setIfInBounds_toArray, List.set_cons_zero, List.set_cons_succ, i64_w, i32_w]
            rfl
          refine pure_ (i := 22) (N := (some 39)) (v := undef) (a' := ?_) (pfx 23 25) rfl rfl (any_of HT_.out (by kernel_rfl)) (fun _ _ _ h => h) (Or.inr ⟨by rfl, rfl⟩) ?_ ?_
          rotate_left
          · simp only [Act.put, List.setIfInBounds_toArray, List.set_cons_zero, List.set_cons_succ, i64_w, i32_w]
            rfl
          refine pure_ (i := 23) (N := (some 40)) (v := undef) (a' := ?_) (pfx 24 25) rfl rfl (any_of HT_.out (by kernel_rfl)) (fun _ _ _ h => h) (Or.inr ⟨by rfl, rfl⟩) ?_ ?_
          rotate_left
          · simp only [Act.put, List.setIfInBounds_toArray, List.set_cons_zero, List.set_cons_succ, i64_w, i32_w]
            rfl
          refine pure_ (i := 24) (N := (some 41)) (v := ?_) (a' := ?_) (pfx 25 25) rfl rfl (any_of HT_.out (by kernel_rfl)) (fun _ _ _ h => h) (Or.inl ⟨by rfl, ?_⟩) ?_ ?_
          rotate_left
          · intro w'
            go_simp
            with_reducible rfl
          rotate_left
          · simp only [Act.put, List.setIfInBounds_toArray, List.set_cons_zero, List.set_cons_succ, i64_w, i32_w]
            rfl
          refine done_ (done_of HT_.out (by kernel_rfl)) ?_
          go_wp2
          rw [e1]
          exact bodyPost_ret (results_none rfl _ _ _) rfl ⟨rfl, HR.out.fail.drew, Lib.Hx.grownBy_drew (Lib.Hx.grownBy_set HG.out ⟨r, 2, none⟩ rfl _)⟩
        · have q2 : b < s.size := by have := HX.out.2.1; omega
          have q1' : ((b : Int) == (s.size : Int)) = false := beqN q1
          by_cases q3 : bt s (b : Int) = bt p (i : Int)
          · have e1 : tk s p p.size 0 a = tk s p m (i + 1) (b + 1) := by
              rw [HX.out.2.2, tk, if_neg (fun h => h.elim q1 (fun h => h q3))]
            refine start_ (n := 25) (S := fun w' => w'.cell? ⟨r, 0, none⟩ = some (.string s) ∧ w'.cell? ⟨r, 1, none⟩ = some (.int .i64 (b : Int)) ∧ w'.cell? ⟨r, 2, none⟩ = some (.bool true)) (ds := []) (pfx 0 25) (by kernel_rfl) rfl (by kernel_rfl) ⟨c0, c1, c2⟩ (fun hHeld => ?_)
            refine with_tabW tab56_3 bits56_3 (fun HT_ HW_ => ?_)
            refine pure_ (i := 0) (N := (some 17)) (v := ?_) (a' := ?_) (pfx 1 25) rfl rfl (any_of HT_.out (by kernel_rfl)) (fun _ _ _ h => h) (Or.inl ⟨by rfl, ?_⟩) ?_ ?_
            rotate_left
            · intro w'
              go_simp
              with_reducible rfl
            rotate_left
            · simp only [Act.put, List.setIfInBounds_toArray, List.set_cons_zero, List.set_cons_succ, i64_w, i32_w]
              rfl
            refine pure_ (i := 1) (N := (some 18)) (v := ?_) (a' := ?_) (pfx 2 25) rfl rfl (any_of HT_.out (by kernel_rfl)) (fun _ _ _ h => h) (Or.inl ⟨by rfl, ?_⟩) ?_ ?_
            rotate_left
            · intro w'
              go_simp
              with_reducible rfl
            rotate_left
            · simp only [Act.put, List.setIfInBounds_toArray, List.set_cons_zero, List.set_cons_succ, i64_w, i32_w]
              rfl
            refine pure_ (i := 2) (N := (some 19)) (v := ?_) (a' := ?_) (pfx 3 25) rfl rfl (any_of HT_.out (by kernel_rfl)) (fun _ _ _ h => h) (Or.inl ⟨by rfl, ?_⟩) ?_ ?_
            rotate_left
            · intro w'
              go_simp
              with_reducible rfl
            rotate_left
            · simp only [Act.put, List.setIfInBounds_toArray, List.set_cons_zero, List.set_cons_succ, i64_w, i32_w]
              rfl
            refine take_ (i := 3) (N := (some 20)) (v := ?_) (a' := ?_) (pfx 4 25) rfl rfl (take_ofW HT_.out HW_.out (by kernel_rfl)) (fun _ _ _ h => h) (Or.inl ⟨by rfl, ?_⟩) hHeld ?_ ?_
            rotate_left
            · rintro w' ⟨s0, s1, s2⟩
              go_simp
              with_reducible rfl
            rotate_left
            · simp only [Act.put, List.setIfInBounds_toArray, List.set_cons_zero, List.set_cons_succ, i64_w, i32_w]
              rfl
            refine pure_ (i := 4) (N := (some 21)) (v := ?_) (a' := ?_) (pfx 5 25) rfl rfl (any_of HT_.out (by kernel_rfl)) (fun _ _ _ h => h) (Or.inl ⟨by rfl, ?_⟩) ?_ ?_
            rotate_left
            · intro w'
              go_simp
              with_reducible rfl
            rotate_left
            · simp only [Act.put, List.setIfInBounds_toArray, List.set_cons_zero, List.set_cons_succ, i64_w, i32_w]
              rfl
            refine pure_ (i := 5) (N := (some 22)) (v := ?_) (a' := ?_) (pfx 6 25) rfl rfl (any_of HT_.out (by kernel_rfl)) (fun _ _ _ h => h) (Or.inl ⟨by rfl, ?_⟩) ?_ ?_
            rotate_left
            · intro w'
              go_simp
              with_reducible rfl
            rotate_left
            · simp only [Act.put, List.setIfInBounds_toArray, List.set_cons_zero, List.set_cons_succ, i64_w, i32_w]
              rfl
            refine pure_ (i := 6) (N := (some 23)) (v := ?_) (a' := ?_) (pfx 7 25) rfl rfl (any_of HT_.out (by kernel_rfl)) (fun _ _ _ h => h) (Or.inl ⟨by rfl, ?_⟩) ?_ ?_
            rotate_left
            · intro w'
              go_simp
              with_reducible rfl
            rotate_left
            · simp only [Act.put, List.setIfInBounds_toArray, List.set_cons_zero, List.set_cons_succ, i64_w, i32_w]
              rfl
            refine take_ (i := 7) (N := (some 24)) (v := ?_) (a' := ?_) (pfx 8 25) rfl rfl (take_ofW HT_.out HW_.out (by kernel_rfl)) (fun _ _ _ h => h) (Or.inl ⟨by rfl, ?_⟩) hHeld ?_ ?_
            rotate_left
            · rintro w' ⟨s0, s1, s2⟩
              go_simp
              with_reducible rfl
            rotate_left
            · simp only [Act.put, List.setIfInBounds_toArray, List.set_cons_zero, List.set_cons_succ, i64_w, i32_w]
              rfl
            refine pure_ (i := 8) (N := (some 25)) (v := ?_) (a' := ?_) (pfx 9 25) rfl rfl (any_of HT_.out (by kernel_rfl)) (fun _ _ _ h => h) (Or.inl ⟨by rfl, ?_⟩) ?_ ?_
            rotate_left
            · intro w'
              go_simp
              with_reducible rfl
            rotate_left
            · simp only [Act.put, List.setIfInBounds_toArray, List.set_cons_zero, List.set_cons_succ, i64_w, i32_w]
              rfl
            refine pure_ (i := 9) (N := (some 26)) (v := ?_) (a' := ?_) (pfx 10 25) rfl rfl (any_of HT_.out (by kernel_rfl)) (fun _ _ _ h => h) (Or.inl ⟨by rfl, ?_⟩) ?_ ?_
            rotate_left
            · intro w'
              go_simp
              with_reducible rfl
            rotate_left
            · simp only [Act.put, List.setIfInBounds_toArray, List.set_cons_zero, List.set_cons_succ, i64_w, i32_w]
              rfl
            refine pure_ (i := 10) (N := (some 27)) (v := ?_) (a' := ?_) (pfx 11 25) rfl rfl (any_of HT_.out (by kernel_rfl)) (fun _ _ _ h => h) (Or.inl ⟨by rfl, ?_⟩) ?_ ?_
            rotate_left
            · intro w'
              go_simp
              with_reducible rfl
            rotate_left
            · simp only [Act.put, List.setIfInBounds_toArray, List.set_cons_zero, List.set_cons_succ, i64_w, i32_w]
              rfl
            refine pure_ (i := 11) (N := (some 28)) (v := ?_) (a' := ?_) (pfx 12 25) rfl rfl (any_of HT_.out (by kernel_rfl)) (fun _ _ _ h => h) (Or.inl ⟨by rfl, ?_⟩) ?_ ?_
            rotate_left
            · intro w'
              go_simp
              with_reducible rfl
            rotate_left
            · simp only [Act.put, List.setIfInBounds_toArray, List.set_cons_zero, List.set_cons_succ, i64_w, i32_w]
              rfl
            refine pure_ (i := 12) (N := (some 29)) (v := ?_) (a' := ?_) (pfx 13 25) rfl rfl (any_of HT_.out (by kernel_rfl)) (fun _ _ _ h => h) (Or.inl ⟨by rfl, ?_⟩) ?_ ?_
            rotate_left
            · intro w'
              go_simp
              with_reducible rfl
            rotate_left
            · simp only [Act.put, List.setIfInBounds_toArray, List.set_cons_zero, List.set_cons_succ, i64_w, i32_w]
              rfl
            refine pure_ (i := 13) (N := (some 30)) (v := ?_) (a' := ?_) (pfx 14 25) rfl rfl (any_of HT_.out (by kernel_rfl)) (fun _ _ _ h => h) (Or.inl ⟨by rfl, ?_⟩) ?_ ?_
            rotate_left
            · intro w'
              go_simp
              with_reducible rfl
            rotate_left
            · simp only [Act.put, List.setIfInBounds_toArray, List.set_cons_zero, List.set_cons_succ, i64_w, i32_w]
              rfl
            refine take_ (i := 14) (N := (some 31)) (v := ?_) (a' := ?_) (pfx 15 25) rfl rfl (take_ofW HT_.out HW_.out (by kernel_rfl)) (fun _ _ _ h => h) (Or.inl ⟨by rfl, ?_⟩) hHeld ?_ ?_
            rotate_left
            · rintro w' ⟨s0, s1, s2⟩
              go_simp
              with_reducible rfl
            rotate_left
            · simp only [Act.put, List.setIfInBounds_toArray, List.set_cons_zero, List.set_cons_succ, i64_w, i32_w]
              rfl
            refine pure_ (i := 15) (N := (some 32)) (v := ?_) (a' := ?_) (pfx 16 25) rfl rfl (any_of HT_.out (by kernel_rfl)) (fun _ _ _ h => h) (Or.inl ⟨by rfl, ?_⟩) ?_ ?_
            rotate_left
            · intro w'
              go_simp
              with_reducible rfl
            rotate_left
            · simp only [Act.put, List.setIfInBounds_toArray, List.set_cons_zero, List.set_cons_succ, i64_w, i32_w]
              rfl
            refine pure_ (i := 16) (N := (some 33)) (v := ?_) (a' := ?_) (pfx 17 25) rfl rfl (any_of HT_.out (by kernel_rfl)) (fun _ _ _ h => h) (Or.inl ⟨by rfl, ?_⟩) ?_ ?_
            rotate_left
            · intro w'
              go_simp
              with_reducible rfl
            rotate_left
            · simp only [Act.put, List.setIfInBounds_toArray, List.set_cons_zero, List.set_cons_succ, i64_w, i32_w]
              rfl
            refine pure_ (i := 17) (N := (some 34)) (v := ?_) (a' := ?_) (pfx 18 25) rfl rfl (any_of HT_.out (by kernel_rfl)) (fun _ _ _ h => h) (Or.inl ⟨by rfl, ?_⟩) ?_ ?_
            rotate_left
            · intro w'
              go_simp
              with_reducible rfl
            rotate_left
            · simp only [Act.put, List.setIfInBounds_toArray, List.set_cons_zero, List.set_cons_succ, i64_w, i32_w]
              rfl
            refine take_ (i := 18) (N := (some 35)) (v := ?_) (a' := ?_) (pfx 19 25) rfl rfl (take_ofW HT_.out HW_.out (by kernel_rfl)) (fun _ _ _ h => h) (Or.inl ⟨by rfl, ?_⟩) hHeld ?_ ?_
            rotate_left
            · rintro w' ⟨s0, s1, s2⟩
              go_simp
              with_reducible rfl
            rotate_left
            · simp only [Act.put, List.setIfInBounds_toArray, List.set_cons_zero, List.set_cons_succ, i64_w, i32_w]
              rfl
            refine pure_ (i := 19) (N := (some 36)) (v := ?_) (a' := ?_) (pfx 20 25) rfl rfl (any_of HT_.out (by kernel_rfl)) (fun _ _ _ h => h) (Or.inl ⟨by rfl, ?_⟩) ?_ ?_
            rotate_left
            · intro w'
              go_simp
              with_reducible rfl
            rotate_left
            · simp only [Act.put, List.setIfInBounds_toArray, List.set_cons_zero, List.set_cons_succ, i64_w, i32_w]
              rfl
            refine pure_ (i := 20) (N := (some 37)) (v := ?_) (a' := ?_) (pfx 21 25) rfl rfl (any_of HT_.out (by kernel_rfl)) (fun _ _ _ h => h) (Or.inl ⟨by rfl, ?_⟩) ?_ ?_
            rotate_left
            · intro w'
              go_simp
              with_reducible rfl
            rotate_left
            · simp only [Act.put, List.setIfInBounds_toArray, List.set_cons_zero, List.set_cons_succ, i64_w, i32_w]
              rfl
            refine pure_ (i := 21) (N := (some 38)) (v := ?_) (a' := ?_) (pfx 22 25) rfl rfl (any_of HT_.out (by kernel_rfl)) (fun _ _ _ h => h) (Or.inl ⟨by rfl, ?_⟩) ?_ ?_
            rotate_left
            · intro w'
              go_simp
              with_reducible rfl
            rotate_left
            · simp only [Act.put, List.setIfInBounds_toArray, List.set_cons_zero, List.set_cons_succ, i64_w, i32_w]
              rfl
            refine pure_ (i := 22) (N := (some 39)) (v := ?_) (a' := ?_) (pfx 23 25) rfl rfl (any_of HT_.out (by kernel_rfl)) (fun _ _ _ h => h) (Or.inl ⟨by rfl, ?_⟩) ?_ ?_
            rotate_left
            · intro w'
              go_simp
              with_reducible rfl
            rotate_left
            · simp only [Act.put, List.setIfInBounds_toArray, List.set_cons_zero, List.set_cons_succ, i64_w, i32_w]
              rfl
            refine pure_ (i := 23) (N := (some 40)) (v := ?_) (a' := ?_) (pfx 24 25) rfl rfl (any_of HT_.out (by kernel_rfl)) (fun _ _ _ h => h) (Or.inl ⟨by rfl, ?_⟩) ?_ ?_
            rotate_left
            · intro w'
              go_simp
              with_reducible rfl
            rotate_left
            · simp only [Act.put, List.setIfInBounds_toArray, List.set_cons_zero, List.set_cons_succ, i64_w, i32_w]
              rfl
            refine pure_ (i := 24) (N := (some 41)) (v := ?_) (a' := ?_) (pfx 25 25) rfl rfl (any_of HT_.out (by kernel_rfl)) (fun _ _ _ h => h) (Or.inl ⟨by rfl, ?_⟩) ?_ ?_
            rotate_left
            · intro w'
              go_simp
              with_reducible rfl
            rotate_left
            · simp only [Act.put, List.setIfInBounds_toArray, List.set_cons_zero, List.set_cons_succ, i64_w, i32_w]
              rfl
            refine done_ (done_of HT_.out (by kernel_rfl)) ?_
            go_wp2
            go_roundg m
            case measure => go_light; omega
            case rel =>
              go_light
              exact ⟨i + 1, b + 1, by simp [w2_], ⟨by have := HX.out.1; omega, by omega, e1⟩, ⟨(HR.out.to _ (by omega)).drew⟩, ⟨Lib.Hx.grownBy_drew (Lib.Hx.grownBy_set HG.out ⟨r, 1, none⟩ rfl _)⟩⟩
          · have e1 : tk s p p.size 0 a = (b, false) := by
              rw [HX.out.2.2, tk, if_pos (.inr q3)]
            refine start_ (n := 25) (S := fun w' => w'.cell? ⟨r, 0, none⟩ = some (.string s) ∧ w'.cell? ⟨r, 1, none⟩ = some (.int .i64 (b : Int)) ∧ w'.cell? ⟨r, 2, none⟩ = some (.bool true)) (ds := []) (pfx 0 25) (by kernel_rfl) rfl (by kernel_rfl) ⟨c0, c1, c2⟩ (fun hHeld => ?_)
            refine with_tabW tab56_3 bits56_3 (fun HT_ HW_ => ?_)
            refine pure_ (i := 0) (N := (some 17)) (v := ?_) (a' := ?_) (pfx 1 25) rfl rfl (any_of HT_.out (by kernel_rfl)) (fun _ _ _ h => h) (Or.inl ⟨by rfl, ?_⟩) ?_ ?_
            rotate_left
            · intro w'
              go_simp
              with_reducible rfl
            rotate_left
            · simp only [Act.put, List.setIfInBounds_toArray, List.set_cons_zero, List.set_cons_succ, i64_w, i32_w]
              rfl
            refine pure_ (i := 1) (N := (some 18)) (v := ?_) (a' := ?_) (pfx 2 25) rfl rfl (any_of HT_.out (by kernel_rfl)) (fun _ _ _ h => h) (Or.inl ⟨by rfl, ?_⟩) ?_ ?_
            rotate_left
            · intro w'
              go_simp
              with_reducible rfl
            rotate_left
            · simp only [Act.put, List.setIfInBounds_toArray, List.set_cons_zero, List.set_cons_succ, i64_w, i32_w]
              rfl
            refine pure_ (i := 2) (N := (some 19)) (v := ?_) (a' := ?_) (pfx 3 25) rfl rfl (any_of HT_.out (by kernel_rfl)) (fun _ _ _ h => h) (Or.inl ⟨by rfl, ?_⟩) ?_ ?_
            rotate_left
            · intro w'
              go_simp
              with_reducible rfl
            rotate_left
            · simp only [Act.put, List.setIfInBounds_toArray, List.set_cons_zero, List.set_cons_succ, i64_w, i32_w]
              rfl
            refine take_ (i := 3) (N := (some 20)) (v := ?_) (a' := ?_) (pfx 4 25) rfl rfl (take_ofW HT_.out HW_.out (by kernel_rfl)) (fun _ _ _ h => h) (Or.inl ⟨by rfl, ?_⟩) hHeld ?_ ?_
            rotate_left
            · rintro w' ⟨s0, s1, s2⟩
              go_simp
              with_reducible rfl
            rotate_left
            · simp only [Act.put, List.setIfInBounds_toArray, List.set_cons_zero, List.set_cons_succ, i64_w, i32_w]
              rfl
            refine pure_ (i := 4) (N := (some 21)) (v := ?_) (a' := ?_) (pfx 5 25) rfl rfl (any_of HT_.out (by kernel_rfl)) (fun _ _ _ h => h) (Or.inl ⟨by rfl, ?_⟩) ?_ ?_
            rotate_left
            · intro w'
              go_simp
              with_reducible rfl
            rotate_left
            · simp only [Act.put, List.setIfInBounds_toArray, List.set_cons_zero, List.set_cons_succ, i64_w, i32_w]
              rfl
            refine pure_ (i := 5) (N := (some 22)) (v := ?_) (a' := ?_) (pfx 6 25) rfl rfl (any_of HT_.out (by kernel_rfl)) (fun _ _ _ h => h) (Or.inl ⟨by rfl, ?_⟩) ?_ ?_
            rotate_left
            · intro w'
              go_simp
              with_reducible rfl
            rotate_left
            · simp only [Act.put, List.setIfInBounds_toArray, List.set_cons_zero, List.set_cons_succ, i64_w, i32_w]
              rfl
            refine pure_ (i := 6) (N := (some 23)) (v := ?_) (a' := ?_) (pfx 7 25) rfl rfl (any_of HT_.out (by kernel_rfl)) (fun _ _ _ h => h) (Or.inl ⟨by rfl, ?_⟩) ?_ ?_
            rotate_left
            · intro w'
              go_simp
              with_reducible rfl
            rotate_left
            · simp only [Act.put, List.setIfInBounds_toArray, List.set_cons_zero, List.set_cons_succ, i64_w, i32_w]
              rfl
            refine take_ (i := 7) (N := (some 24)) (v := ?_) (a' := ?_) (pfx 8 25) rfl rfl (take_ofW HT_.out HW_.out (by kernel_rfl)) (fun _ _ _ h => h) (Or.inl ⟨by rfl, ?_⟩) hHeld ?_ ?_
            rotate_left
            · rintro w' ⟨s0, s1, s2⟩
              go_simp
              with_reducible rfl
            rotate_left
            · simp only [Act.put, List.setIfInBounds_toArray, List.set_cons_zero, List.set_cons_succ, i64_w, i32_w]
              rfl
            refine pure_ (i := 8) (N := (some 25)) (v := ?_) (a' := ?_) (pfx 9 25) rfl rfl (any_of HT_.out (by kernel_rfl)) (fun _ _ _ h => h) (Or.inl ⟨by rfl, ?_⟩) ?_ ?_
            rotate_left
            · intro w'
              go_simp
              with_reducible rfl
            rotate_left
            · simp only [Act.put, List.setIfInBounds_toArray, List.set_cons_zero, List.set_cons_succ, i64_w, i32_w]
              rfl
            refine pure_ (i := 9) (N := (some 26)) (v := ?_) (a' := ?_) (pfx 10 25) rfl rfl (any_of HT_.out (by kernel_rfl)) (fun _ _ _ h => h) (Or.inl ⟨by rfl, ?_⟩) ?_ ?_
            rotate_left
            · intro w'
              go_simp
              with_reducible rfl
            rotate_left
            · simp only [Act.put, List.setIfInBounds_toArray, List.set_cons_zero, List.set_cons_succ, i64_w, i32_w]
              rfl
            refine pure_ (i := 10) (N := (some 27)) (v := ?_) (a' := ?_) (pfx 11 25) rfl rfl (any_of HT_.out (by kernel_rfl)) (fun _ _ _ h => h) (Or.inl ⟨by rfl, ?_⟩) ?_ ?_
            rotate_left
            · intro w'
              go_simp
              with_reducible rfl
            rotate_left
            · simp only [Act.put, List.setIfInBounds_toArray, List.set_cons_zero, List.set_cons_succ, i64_w, i32_w]
              rfl
            refine pure_ (i := 11) (N := (some 28)) (v := ?_) (a' := ?_) (pfx 12 25) rfl rfl (any_of HT_.out (by kernel_rfl)) (fun _ _ _ h => h) (Or.inl ⟨by rfl, ?_⟩) ?_ ?_
            rotate_left
            · intro w'
              go_simp
              with_reducible rfl
            rotate_left
            · simp only [Act.put, List.setIfInBounds_toArray, List.set_cons_zero, List.set_cons_succ, i64_w, i32_w]
              rfl
            refine pure_ (i := 12) (N := (some 29)) (v := ?_) (a' := ?_) (pfx 13 25) rfl rfl (any_of HT_.out (by kernel_rfl)) (fun _ _ _ h => h) (Or.inl ⟨by rfl, ?_⟩) ?_ ?_
            rotate_left
            · intro w'
              go_simp
              with_reducible rfl
            rotate_left
            · simp only [Act.put, List.setIfInBounds_toArray, List.set_cons_zero, List.set_cons_succ, i64_w, i32_w]
              rfl
            refine pure_ (i := 13) (N := (some 30)) (v := ?_) (a' := ?_) (pfx 14 25) rfl rfl (any_of HT_.out (by kernel_rfl)) (fun _ _ _ h => h) (Or.inl ⟨by rfl, ?_⟩) ?_ ?_
            rotate_left
            · intro w'
              go_simp
              with_reducible rfl
            rotate_left
            · simp only [Act.put, List.setIfInBounds_toArray, List.set_cons_zero, List.set_cons_succ, i64_w, i32_w]
              rfl
            refine take_ (i := 14) (N := (some 31)) (v := ?_) (a' := ?_) (pfx 15 25) rfl rfl (take_ofW HT_.out HW_.out (by kernel_rfl)) (fun _ _ _ h => h) (Or.inl ⟨by rfl, ?_⟩) hHeld ?_ ?_
            rotate_left
            · rintro w' ⟨s0, s1, s2⟩
              go_simp
              with_reducible rfl
            rotate_left
            · simp only [Act.put, List.setIfInBounds_toArray, List.set_cons_zero, List.set_cons_succ, i64_w, i32_w]
              rfl
            refine pure_ (i := 15) (N := (some 32)) (v := ?_) (a' := ?_) (pfx 16 25) rfl rfl (any_of HT_.out (by kernel_rfl)) (fun _ _ _ h => h) (Or.inl ⟨by rfl, ?_⟩) ?_ ?_
            rotate_left
            · intro w'
              go_simp
              with_reducible rfl
            rotate_left
            · simp only [Act.put, List.setIfInBounds_toArray, List.set_cons_zero, List.set_cons_succ, i64_w, i32_w]
              rfl
            refine pure_ (i := 16) (N := (some 33)) (v := ?_) (a' := ?_) (pfx 17 25) rfl rfl (any_of HT_.out (by kernel_rfl)) (fun _ _ _ h => h) (Or.inl ⟨by rfl, ?_⟩) ?_ ?_
            rotate_left
            · intro w'
              go_simp
              with_reducible rfl
            rotate_left
            · simp only [Act.put, List.setIfInBounds_toArray, List.set_cons_zero, List.set_cons_succ, i64_w, i32_w]
              rfl
            refine pure_ (i := 17) (N := (some 34)) (v := ?_) (a' := ?_) (pfx 18 25) rfl rfl (any_of HT_.out (by kernel_rfl)) (fun _ _ _ h => h) (Or.inl ⟨by rfl, ?_⟩) ?_ ?_
            rotate_left
            · intro w'
              go_simp
              with_reducible rfl
            rotate_left
            · simp only [Act.put, List.setIfInBounds_toArray, List.set_cons_zero, List.set_cons_succ, i64_w, i32_w]
              rfl
            refine take_ (i := 18) (N := (some 35)) (v := ?_) (a' := ?_) (pfx 19 25) rfl rfl (take_ofW HT_.out HW_.out (by kernel_rfl)) (fun _ _ _ h => h) (Or.inl ⟨by rfl, ?_⟩) hHeld ?_ ?_
            rotate_left
            · rintro w' ⟨s0, s1, s2⟩
              go_simp
              with_reducible rfl
            rotate_left
            · simp only [Act.put, List.setIfInBounds_toArray, List.set_cons_zero, List.set_cons_succ, i64_w, i32_w]
              rfl
            refine pure_ (i := 19) (N := (some 36)) (v := ?_) (a' := ?_) (pfx 20 25) rfl rfl (any_of HT_.out (by kernel_rfl)) (fun _ _ _ h => h) (Or.inl ⟨by rfl, ?_⟩) ?_ ?_
            rotate_left
            · intro w'
              go_simp
              with_reducible rfl
            rotate_left
            · simp only [Act.put, List.setIfInBounds_toArray, List.set_cons_zero, List.set_cons_succ, i64_w, i32_w]
              rfl
            refine pure_ (i := 20) (N := (some 37)) (v := ?_) (a' := ?_) (pfx 21 25) rfl rfl (any_of HT_.out (by kernel_rfl)) (fun _ _ _ h => h) (Or.inl ⟨by rfl, ?_⟩) ?_ ?_
            rotate_left
            · intro w'
              go_simp
              with_reducible rfl
            rotate_left
            · simp only [Act.put, List.setIfInBounds_toArray, List.set_cons_zero, List.set_cons_succ, i64_w, i32_w]
              rfl
            refine pure_ (i := 21) (N := (some 38)) (v := ?_) (a' := ?_) (pfx 22 25) rfl rfl (any_of HT_.out (by kernel_rfl)) (fun _ _ _ h => h) (Or.inl ⟨by rfl, ?_⟩) ?_ ?_
            rotate_left
            · intro w'
              go_simp
              with_reducible rfl
            rotate_left
            · simp only [Act.put, List.setIfInBounds_toArray, List.set_cons_zero, List.set_cons_succ, i64_w, i32_w]
              rfl
            refine pure_ (i := 22) (N := (some 39)) (v := ?_) (a' := ?_) (pfx 23 25) rfl rfl (any_of HT_.out (by kernel_rfl)) (fun _ _ _ h => h) (Or.inl ⟨by rfl, ?_⟩) ?_ ?_
            rotate_left
            · intro w'
              go_simp
              with_reducible rfl
            rotate_left
            · simp only [Act.put, List.setIfInBounds_toArray, List.set_cons_zero, List.set_cons_succ, i64_w, i32_w]
              rfl
            refine pure_ (i := 23) (N := (some 40)) (v := ?_) (a' := ?_) (pfx 24 25) rfl rfl (any_of HT_.out (by kernel_rfl)) (fun _ _ _ h => h) (Or.inl ⟨by rfl, ?_⟩) ?_ ?_
            rotate_left
            · intro w'
              go_simp
              with_reducible rfl
            rotate_left
            · simp only [Act.put, List.setIfInBounds_toArray, List.set_cons_zero, List.set_cons_succ, i64_w, i32_w]
              rfl
            refine pure_ (i := 24) (N := (some 41)) (v := ?_) (a' := ?_) (pfx 25 25) rfl rfl (any_of HT_.out (by kernel_rfl)) (fun _ _ _ h => h) (Or.inl ⟨by rfl, ?_⟩) ?_ ?_
            rotate_left
            · intro w'
              go_simp
              with_reducible rfl
            rotate_left
            · simp only [Act.put, List.setIfInBounds_toArray, List.set_cons_zero, List.set_cons_succ, i64_w, i32_w]
              rfl
            refine done_ (done_of HT_.out (by kernel_rfl)) ?_
            go_wp2
            rw [e1]
            exact bodyPost_ret (results_none rfl _ _ _) rfl ⟨rfl, HR.out.fail.drew, Lib.Hx.grownBy_drew (Lib.Hx.grownBy_set HG.out ⟨r, 2, none⟩ rfl _)⟩
set_option maxHeartbeats 4000000 in
set_option maxRecDepth 100000 in
theorem next_calls (s : ByteArray) (r b : Nat) (ok : Bool) (c : Int) (w : World) (h : RdAt w r s b ok) (ha : b ≤ s.size) (hs : s.size ≤ 1048576) :
    Calls Tryd.prog 58 #[.pointer (some ⟨r, 0, none⟩), .int .u8 c] w fun e w' => e = .returned (.bool (nx s b ok c)) ∧ Below w.heap.size w w' := by
  obtain ⟨⟨c0, c1, c2⟩, z1, z2⟩ := h.cells
  clear h z1 z2
  unfold nx
  cases ok
  · go_enter Tryd.func58, Tryd.ntmps58
    go_upto_region 1 with fail
    refine start_ (n := 30) (S := fun w' => w'.cell? ⟨r, 0, none⟩ = some (.string s) ∧ w'.cell? ⟨r, 1, none⟩ = some (.int .i64 (b : Int)) ∧ w'.cell? ⟨r, 2, none⟩ = some (.bool false)) (ds := []) (pfx 0 30) (by kernel_rfl) rfl (by kernel_rfl) ⟨c0, c1, c2⟩ (fun hHeld => ?_)
    refine with_tabW tab58_1 bits58_1 (fun HT_ HW_ => ?_)
    refine pure_ (i := 0) (N := (some 5)) (v := ?_) (a' := ?_) (pfx 1 30) rfl rfl (any_of HT_.out (by kernel_rfl)) (fun _ _ _ h => h) (Or.inl ⟨by rfl, ?_⟩) ?_ ?_
    rotate_left
    · intro w'
      go_simp
      with_reducible rfl
    rotate_left
    · simp only [Act.put, List.setIfInBounds_toArray, List.set_cons_zero, List.set_cons_succ, i64_w, i32_w]
      rfl
    refine pure_ (i := 1) (N := (some 6)) (v := ?_) (a' := ?_) (pfx 2 30) rfl rfl (any_of HT_.out (by kernel_rfl)) (fun _ _ _ h => h) (Or.inl ⟨by rfl, ?_⟩) ?_ ?_
    rotate_left
    · intro w'
      go_simp
      with_reducible rfl
    rotate_left
    · simp only [Act.put, List.setIfInBounds_toArray, List.set_cons_zero, List.set_cons_succ, i64_w, i32_w]
      rfl
    refine pure_ (i := 2) (N := (some 7)) (v := ?_) (a' := ?_) (pfx 3 30) rfl rfl (any_of HT_.out (by kernel_rfl)) (fun _ _ _ h => h) (Or.inl ⟨by rfl, ?_⟩) ?_ ?_
    rotate_left
    · intro w'
      go_simp
      with_reducible rfl
    rotate_left
    · simp only [Act.put, List.setIfInBounds_toArray, List.set_cons_zero, List.set_cons_succ, i64_w, i32_w]
      rfl
    refine take_ (i := 3) (N := (some 8)) (v := ?_) (a' := ?_) (pfx 4 30) rfl rfl (take_ofW HT_.out HW_.out (by kernel_rfl)) (fun _ _ _ h => h) (Or.inl ⟨by rfl, ?_⟩) hHeld ?_ ?_
    rotate_left
    · rintro w' ⟨s0, s1, s2⟩
      go_simp
      with_reducible rfl
    rotate_left
    · simp only [Act.put, List.setIfInBounds_toArray, List.set_cons_zero, List.set_cons_succ, i64_w, i32_w]
      rfl
    refine pure_ (i := 4) (N := (some 9)) (v := ?_) (a' := ?_) (pfx 5 30) rfl rfl (any_of HT_.out (by kernel_rfl)) (fun _ _ _ h => h) (Or.inl ⟨by rfl, ?_⟩) ?_ ?_
    rotate_left
    · intro w'
      go_simp
      with_reducible rfl
    rotate_left
    · simp only [Act.put, List.setIfInBounds_toArray, List.set_cons_zero, List.set_cons_succ, i64_w, i32_w]
      rfl
    refine pure_ (i := 5) (N := (some 10)) (v := undef) (a' := ?_) (pfx 6 30) rfl rfl (any_of HT_.out (by kernel_rfl)) (fun _ _ _ h => h) (Or.inr ⟨by rfl, rfl⟩) ?_ ?_
    rotate_left
    · simp only [Act.put, List.setIfInBounds_toArray, List.set_cons_zero, List.set_cons_succ, i64_w, i32_w]
      rfl
    refine pure_ (i := 6) (N := (some 11)) (v := undef) (a' := ?_) (pfx 7 30) rfl rfl (any_of HT_.out (by kernel_rfl)) (fun _ _ _ h => h) (Or.inr ⟨by rfl, rfl⟩) ?_ ?_
    rotate_left
    · simp only [Act.put, List.setIfInBounds_toArray, List.set_cons_zero, List.set_cons_succ, i64_w, i32_w]
      rfl
    refine pure_ (i := 7) (N := (some 12)) (v := undef) (a' := ?_) (pfx 8 30) rfl rfl (any_of HT_.out (by kernel_rfl)) (fun _ _ _ h => h) (Or.inr ⟨by rfl, rfl⟩) ?_ ?_
    rotate_left
    · simp only [Act.put, List.setIfInBounds_toArray, List.set_cons_zero, List.set_cons_succ, i64_w, i32_w]
      rfl
    refine pure_ (i := 8) (N := (some 13)) (v := undef) (a' := ?_) (pfx 9 30) rfl rfl (any_of HT_.out (by kernel_rfl)) (fun _ _ _ h => h) (Or.inr ⟨by rfl, rfl⟩) ?_ ?_
    rotate_left
    · simp only [Act.put, List.setIfInBounds_toArray, List.set_cons_zero, List.set_cons_succ, i64_w, i32_w]
      rfl
    refine pure_ (i := 9) (N := (some 14)) (v := undef) (a' := ?_) (pfx 10 30) rfl rfl (any_of HT_.out (by kernel_rfl)) (fun _ _ _ h => h) (Or.inr ⟨by rfl, rfl⟩) ?_ ?_
    rotate_left
    · simp only [Act.put, List.setIfInBounds_toArray, List.set_cons_zero, List.set_cons_succ, i64_w, i32_w]
      rfl
    refine pure_ (i := 10) (N := (some 15)) (v := undef) (a' := ?_) (pfx 11 30) rfl rfl (any_of HT_.out (by kernel_rfl)) (fun _ _ _ h => h) (Or.inr ⟨by rfl, rfl⟩) ?_ ?_
    rotate_left
    · simp only [Act.put, List.setIfInBounds_toArray, List.set_cons_zero, List.set_cons_succ, i64_w, i32_w]
      rfl
    refine pure_ (i := 11) (N := (some 16)) (v := undef) (a' := ?_) (pfx 12 30) rfl rfl (any_of HT_.out (by kernel_rfl)) (fun _ _ _ h => h) (Or.inr ⟨by rfl, rfl⟩) ?_ ?_
    rotate_left
    · simp only [Act.put, List.setIfInBounds_toArray, List.set_cons_zero, List.set_cons_succ, i64_w, i32_w]
      rfl
    refine pure_ (i := 12) (N := (some 17)) (v := undef) (a' := ?_) (pfx 13 30) rfl rfl (any_of HT_.out (by kernel_rfl)) (fun _ _ _ h => h) (Or.inr ⟨by rfl, rfl⟩) ?_ ?_
    rotate_left
    · simp only [Act.put, List.setIfInBounds_toArray, List.set_cons_zero, List.set_cons_succ, i64_w, i32_w]
      rfl
    refine pure_ (i := 13) (N := (some 18)) (v := undef) (a' := ?_) (pfx 14 30) rfl rfl (any_of HT_.out (by kernel_rfl)) (fun _ _ _ h => h) (Or.inr ⟨by rfl, rfl⟩) ?_ ?_
    rotate_left
    · simp only [Act.put, List.setIfInBounds_toArray, List.set_cons_zero, List.set_cons_succ, i64_w, i32_w]
      rfl
    refine pure_ (i := 14) (N := (some 19)) (v := undef) (a' := ?_) (pfx 15 30) rfl rfl (any_of HT_.out (by kernel_rfl)) (fun _ _ _ h => h) (Or.inr ⟨by rfl, rfl⟩) ?_ ?_
    rotate_left
    · simp only [Act.put, List.setIfInBounds_toArray, List.set_cons_zero, List.set_cons_succ, i64_w, i32_w]
      rfl
    refine pure_ (i := 15) (N := (some 20)) (v := ?_) (a' := ?_) (pfx 16 30) rfl rfl (any_of HT_.out (by kernel_rfl)) (fun _ _ _ h => h) (Or.inl ⟨by rfl, ?_⟩) ?_ ?_
    rotate_left
    · intro w'
      go_simp
      with_reducible rfl
    rotate_left
    · simp only [Act.put, List.setIfInBounds_toArray, List.set_cons_zero, List.set_cons_succ, i64_w, i32_w]
      rfl
    refine pure_ (i := 16) (N := (some 21)) (v := ?_) (a' := ?_) (pfx 17 30) rfl rfl (any_of HT_.out (by kernel_rfl)) (fun _ _ _ h => h) (Or.inl ⟨by rfl, ?_⟩) ?_ ?_
    rotate_left
    · intro w'
      go_simp
      with_reducible rfl
    rotate_left
    · simp only [Act.put, List.setIfInBounds_toArray, List.set_cons_zero, List.set_cons_succ, i64_w, i32_w]
      rfl
    refine pure_ (i := 17) (N := (some 22)) (v := undef) (a' := ?_) (pfx 18 30) rfl rfl (any_of HT_.out (by kernel_rfl)) (fun _ _ _ h => h) (Or.inr ⟨by rfl, rfl⟩) ?_ ?_
    rotate_left
    · simp only [Act.put, List.setIfInBounds_toArray, List.set_cons_zero, List.set_cons_succ, i64_w, i32_w]
      rfl
    refine pure_ (i := 18) (N := (some 23)) (v := undef) (a' := ?_) (pfx 19 30) rfl rfl (any_of HT_.out (by kernel_rfl)) (fun _ _ _ h => h) (Or.inr ⟨by rfl, rfl⟩) ?_ ?_
    rotate_left
    · simp only [Act.put, List.setIfInBounds_toArray, List.set_cons_zero, List.set_cons_succ, i64_w, i32_w]
      rfl
    refine pure_ (i := 19) (N := (some 24)) (v := undef) (a' := ?_) (pfx 20 30) rfl rfl (any_of HT_.out (by kernel_rfl)) (fun _ _ _ h => h) (Or.inr ⟨by rfl, rfl⟩) ?_ ?_
    rotate_left
    · simp only [Act.put, List.setIfInBounds_toArray, List.set_cons_zero, List.set_cons_succ, i64_w, i32_w]
      rfl
    refine pure_ (i := 20) (N := (some 25)) (v := undef) (a' := ?_) (pfx 21 30) rfl rfl (any_of HT_.out (by kernel_rfl)) (fun _ _ _ h => h) (Or.inr ⟨by rfl, rfl⟩) ?_ ?_
    rotate_left
    · simp only [Act.put, List.setIfInBounds_toArray, List.set_cons_zero, List.set_cons_succ, i64_w, i32_w]
      rfl
    refine pure_ (i := 21) (N := (some 26)) (v := undef) (a' := ?_) (pfx 22 30) rfl rfl (any_of HT_.out (by kernel_rfl)) (fun _ _ _ h => h) (Or.inr ⟨by rfl, rfl⟩) ?_ ?_
    rotate_left
    · simp only [Act.put, List.setIfInBounds_toArray, List.set_cons_zero, List.set_cons_succ, i64_w, i32_w]
      rfl
    refine pure_ (i := 22) (N := (some 27)) (v := undef) (a' := ?_) (pfx 23 30) rfl rfl (any_of HT_.out (by kernel_rfl)) (fun _ _ _ h => h) (Or.inr ⟨by rfl, rfl⟩) ?_ ?_
    rotate_left
    · simp only [Act.put, List.setIfInBounds_toArray, List.set_cons_zero, List.set_cons_succ, i64_w, i32_w]
      rfl
    refine pure_ (i := 23) (N := (some 28)) (v := undef) (a' := ?_) (pfx 24 30) rfl rfl (any_of HT_.out (by kernel_rfl)) (fun _ _ _ h => h) (Or.inr ⟨by rfl, rfl⟩) ?_ ?_
    rotate_left
    · simp only [Act.put, List.setIfInBounds_toArray, List.set_cons_zero, List.set_cons_succ, i64_w, i32_w]
      rfl
    refine pure_ (i := 24) (N := (some 29)) (v := undef) (a' := ?_) (pfx 25 30) rfl rfl (any_of HT_.out (by kernel_rfl)) (fun _ _ _ h => h) (Or.inr ⟨by rfl, rfl⟩) ?_ ?_
    rotate_left
    · simp only [Act.put, List.setIfInBounds_toArray, List.set_cons_zero, List.set_cons_succ, i64_w, i32_w]
      rfl
    refine pure_ (i := 25) (N := (some 30)) (v := undef) (a' := ?_) (pfx 26 30) rfl rfl (any_of HT_.out (by kernel_rfl)) (fun _ _ _ h => h) (Or.inr ⟨by rfl, rfl⟩) ?_ ?_
    rotate_left
    · simp only [Act.put, List.setIfInBounds_toArray, List.set_cons_zero, List.set_cons_succ, i64_w, i32_w]
      rfl
    refine pure_ (i := 26) (N := (some 31)) (v := undef) (a' := ?_) (pfx 27 30) rfl rfl (any_of HT_.out (by kernel_rfl)) (fun _ _ _ h => h) (Or.inr ⟨by rfl, rfl⟩) ?_ ?_
    rotate_left
    · simp only [Act.put, List.setIfInBounds_toArray, List.set_cons_zero, List.set_cons_succ, i64_w, i32_w]
      rfl
    refine pure_ (i := 27) (N := (some 32)) (v := undef) (a' := ?_) (pfx 28 30) rfl rfl (any_of HT_.out (by kernel_rfl)) (fun _ _ _ h => h) (Or.inr ⟨by rfl, rfl⟩) ?_ ?_
    rotate_left
    · simp only [Act.put, List.setIfInBounds_toArray, List.set_cons_zero, List.set_cons_succ, i64_w, i32_w]
      rfl
    refine pure_ (i := 28) (N := (some 33)) (v := ?_) (a' := ?_) (pfx 29 30) rfl rfl (any_of HT_.out (by kernel_rfl)) (fun _ _ _ h => h) (Or.inl ⟨by rfl, ?_⟩) ?_ ?_
    rotate_left
    · intro w'
      go_simp
      with_reducible rfl
    rotate_left
    · simp only [Act.put, List.setIfInBounds_toArray, List.set_cons_zero, List.set_cons_succ, i64_w, i32_w]
      rfl
    refine pure_ (i := 29) (N := (some 4)) (v := ?_) (a' := ?_) (pfx 30 30) rfl rfl (any_of HT_.out (by kernel_rfl)) (fun _ _ _ h => h) (Or.inl ⟨by rfl, ?_⟩) ?_ ?_
    rotate_left
    · intro w'
      go_simp
      with_reducible rfl
    rotate_left
    · simp only [Act.put, List.setIfInBounds_toArray, List.set_cons_zero, List.set_cons_succ, i64_w, i32_w]
      rfl
    refine done_ (done_of HT_.out (by kernel_rfl)) ?_
    go_wp2
    go_ret
    exact ⟨rfl, below_drew (Below.refl _ _)⟩
  · have x2 : ∀ h : b < s.size, ((s[b]'h).toNat : Int) = bt s (b : Int) := bt_at s (b : Int)
    by_cases q : b < s.size
    · rw [decide_eq_true q]
      by_cases q3 : bt s (b : Int) = c
      · go_enter Tryd.func58, Tryd.ntmps58
        go_upto_region 1 with fail
        refine start_ (n := 30) (S := fun w' => w'.cell? ⟨r, 0, none⟩ = some (.string s) ∧ w'.cell? ⟨r, 1, none⟩ = some (.int .i64 (b : Int)) ∧ w'.cell? ⟨r, 2, none⟩ = some (.bool true)) (ds := []) (pfx 0 30) (by kernel_rfl) rfl (by kernel_rfl) ⟨c0, c1, c2⟩ (fun hHeld => ?_)
        refine with_tabW tab58_1 bits58_1 (fun HT_ HW_ => ?_)
        refine pure_ (i := 0) (N := (some 5)) (v := ?_) (a' := ?_) (pfx 1 30) rfl rfl (any_of HT_.out (by kernel_rfl)) (fun _ _ _ h => h) (Or.inl ⟨by rfl, ?_⟩) ?_ ?_
        rotate_left
        · intro w'
          go_simp
          with_reducible rfl
        rotate_left
        · simp only [Act.put, List.setIfInBounds_toArray, List.set_cons_zero, List.set_cons_succ, i64_w, i32_w]
          rfl
        refine pure_ (i := 1) (N := (some 6)) (v := ?_) (a' := ?_) (pfx 2 30) rfl rfl (any_of HT_.out (by kernel_rfl)) (fun _ _ _ h => h) (Or.inl ⟨by rfl, ?_⟩) ?_ ?_
        rotate_left
        · intro w'
          go_simp
          with_reducible rfl
        rotate_left
        · simp only [Act.put, List.setIfInBounds_toArray, List.set_cons_zero, List.set_cons_succ, i64_w, i32_w]
          rfl
        refine pure_ (i := 2) (N := (some 7)) (v := ?_) (a' := ?_) (pfx 3 30) rfl rfl (any_of HT_.out (by kernel_rfl)) (fun _ _ _ h => h) (Or.inl ⟨by rfl, ?_⟩) ?_ ?_
        rotate_left
        · intro w'
          go_simp
          with_reducible rfl
        rotate_left
        · simp only [Act.put, List.setIfInBounds_toArray, List.set_cons_zero, List.set_cons_succ, i64_w, i32_w]
          rfl
        refine take_ (i := 3) (N := (some 8)) (v := ?_) (a' := ?_) (pfx 4 30) rfl rfl (take_ofW HT_.out HW_.out (by kernel_rfl)) (fun _ _ _ h => h) (Or.inl ⟨by rfl, ?_⟩) hHeld ?_ ?_
        rotate_left
        · rintro w' ⟨s0, s1, s2⟩
          go_simp
          with_reducible rfl
        rotate_left
        · simp only [Act.put, List.setIfInBounds_toArray, List.set_cons_zero, List.set_cons_succ, i64_w, i32_w]
          rfl
        refine pure_ (i := 4) (N := (some 9)) (v := ?_) (a' := ?_) (pfx 5 30) rfl rfl (any_of HT_.out (by kernel_rfl)) (fun _ _ _ h => h) (Or.inl ⟨by rfl, ?_⟩) ?_ ?_
        rotate_left
        · intro w'
          go_simp
          with_reducible rfl
        rotate_left
        · simp only [Act.put, List.setIfInBounds_toArray, List.set_cons_zero, List.set_cons_succ, i64_w, i32_w]
          rfl
        refine pure_ (i := 5) (N := (some 10)) (v := ?_) (a' := ?_) (pfx 6 30) rfl rfl (any_of HT_.out (by kernel_rfl)) (fun _ _ _ h => h) (Or.inl ⟨by rfl, ?_⟩) ?_ ?_
        rotate_left
        · intro w'
          go_simp
          with_reducible rfl
        rotate_left
        · simp only [Act.put, List.setIfInBounds_toArray, List.set_cons_zero, List.set_cons_succ, i64_w, i32_w]
          rfl
        refine pure_ (i := 6) (N := (some 11)) (v := ?_) (a' := ?_) (pfx 7 30) rfl rfl (any_of HT_.out (by kernel_rfl)) (fun _ _ _ h => h) (Or.inl ⟨by rfl, ?_⟩) ?_ ?_
        rotate_left
        · intro w'
          go_simp
          with_reducible rfl
        rotate_left
        · simp only [Act.put, List.setIfInBounds_toArray, List.set_cons_zero, List.set_cons_succ, i64_w, i32_w]
          rfl
        refine pure_ (i := 7) (N := (some 12)) (v := ?_) (a' := ?_) (pfx 8 30) rfl rfl (any_of HT_.out (by kernel_rfl)) (fun _ _ _ h => h) (Or.inl ⟨by rfl, ?_⟩) ?_ ?_
        rotate_left
        · intro w'
          go_simp
          with_reducible rfl
        rotate_left
        · simp only [Act.put, List.setIfInBounds_toArray, List.set_cons_zero, List.set_cons_succ, i64_w, i32_w]
          rfl
        refine take_ (i := 8) (N := (some 13)) (v := ?_) (a' := ?_) (pfx 9 30) rfl rfl (take_ofW HT_.out HW_.out (by kernel_rfl)) (fun _ _ _ h => h) (Or.inl ⟨by rfl, ?_⟩) hHeld ?_ ?_
        rotate_left
        · rintro w' ⟨s0, s1, s2⟩
          go_simp
          with_reducible rfl
        rotate_left
        · simp only [Act.put, List.setIfInBounds_toArray, List.set_cons_zero, List.set_cons_succ, i64_w, i32_w]
          rfl
        refine pure_ (i := 9) (N := (some 14)) (v := ?_) (a' := ?_) (pfx 10 30) rfl rfl (any_of HT_.out (by kernel_rfl)) (fun _ _ _ h => h) (Or.inl ⟨by rfl, ?_⟩) ?_ ?_
        rotate_left
        · intro w'
          go_simp
          with_reducible rfl
        rotate_left
        · simp only [Act.put, List.setIfInBounds_toArray, List.set_cons_zero, List.set_cons_succ, i64_w, i32_w]
          rfl
        refine pure_ (i := 10) (N := (some 15)) (v := ?_) (a' := ?_) (pfx 11 30) rfl rfl (any_of HT_.out (by kernel_rfl)) (fun _ _ _ h => h) (Or.inl ⟨by rfl, ?_⟩) ?_ ?_
        rotate_left
        · intro w'
          go_simp
          with_reducible rfl
        rotate_left
        · simp only [Act.put, List.setIfInBounds_toArray, List.set_cons_zero, List.set_cons_succ, i64_w, i32_w]
          rfl
        refine pure_ (i := 11) (N := (some 16)) (v := ?_) (a' := ?_) (pfx 12 30) rfl rfl (any_of HT_.out (by kernel_rfl)) (fun _ _ _ h => h) (Or.inl ⟨by rfl, ?_⟩) ?_ ?_
        rotate_left
        · intro w'
          go_simp
          with_reducible rfl
        rotate_left
        · simp only [Act.put, List.setIfInBounds_toArray, List.set_cons_zero, List.set_cons_succ, i64_w, i32_w]
          rfl
        refine take_ (i := 12) (N := (some 17)) (v := ?_) (a' := ?_) (pfx 13 30) rfl rfl (take_ofW HT_.out HW_.out (by kernel_rfl)) (fun _ _ _ h => h) (Or.inl ⟨by rfl, ?_⟩) hHeld ?_ ?_
        rotate_left
        · rintro w' ⟨s0, s1, s2⟩
          go_simp
          with_reducible rfl
        rotate_left
        · simp only [Act.put, List.setIfInBounds_toArray, List.set_cons_zero, List.set_cons_succ, i64_w, i32_w]
          rfl
        refine pure_ (i := 13) (N := (some 18)) (v := ?_) (a' := ?_) (pfx 14 30) rfl rfl (any_of HT_.out (by kernel_rfl)) (fun _ _ _ h => h) (Or.inl ⟨by rfl, ?_⟩) ?_ ?_
        rotate_left
        · intro w'
          go_simp
          with_reducible rfl
        rotate_left
        · simp only [Act.put, List.setIfInBounds_toArray, List.set_cons_zero, List.set_cons_succ, i64_w, i32_w]
          rfl
        refine pure_ (i := 14) (N := (some 19)) (v := ?_) (a' := ?_) (pfx 15 30) rfl rfl (any_of HT_.out (by kernel_rfl)) (fun _ _ _ h => h) (Or.inl ⟨by rfl, ?_⟩) ?_ ?_
        rotate_left
        · intro w'
          go_simp
          with_reducible rfl
        rotate_left
        · simp only [Act.put, List.setIfInBounds_toArray, List.set_cons_zero, List.set_cons_succ, i64_w, i32_w]
          rfl
        refine pure_ (i := 15) (N := (some 20)) (v := ?_) (a' := ?_) (pfx 16 30) rfl rfl (any_of HT_.out (by kernel_rfl)) (fun _ _ _ h => h) (Or.inl ⟨by rfl, ?_⟩) ?_ ?_
        rotate_left
        · intro w'
          go_simp
          with_reducible rfl
        rotate_left
        · simp only [Act.put, List.setIfInBounds_toArray, List.set_cons_zero, List.set_cons_succ, i64_w, i32_w]
          rfl
        refine pure_ (i := 16) (N := (some 21)) (v := ?_) (a' := ?_) (pfx 17 30) rfl rfl (any_of HT_.out (by kernel_rfl)) (fun _ _ _ h => h) (Or.inl ⟨by rfl, ?_⟩) ?_ ?_
        rotate_left
        · intro w'
          go_simp
          with_reducible rfl
        rotate_left
        · simp only [Act.put, List.setIfInBounds_toArray, List.set_cons_zero, List.set_cons_succ, i64_w, i32_w]
          rfl
        refine pure_ (i := 17) (N := (some 22)) (v := ?_) (a' := ?_) (pfx 18 30) rfl rfl (any_of HT_.out (by kernel_rfl)) (fun _ _ _ h => h) (Or.inl ⟨by rfl, ?_⟩) ?_ ?_
        rotate_left
        · intro w'
          go_simp
          with_reducible rfl
        rotate_left
        · simp only [Act.put, List.setIfInBounds_toArray, List.set_cons_zero, List.set_cons_succ, i64_w, i32_w]
          rfl
        refine pure_ (i := 18) (N := (some 23)) (v := ?_) (a' := ?_) (pfx 19 30) rfl rfl (any_of HT_.out (by kernel_rfl)) (fun _ _ _ h => h) (Or.inl ⟨by rfl, ?_⟩) ?_ ?_
        rotate_left
        · intro w'
          go_simp
          with_reducible rfl
        rotate_left
        · simp only [Act.put, List.setIfInBounds_toArray, List.set_cons_zero, List.set_cons_succ, i64_w, i32_w]
          rfl
        refine pure_ (i := 19) (N := (some 24)) (v := ?_) (a' := ?_) (pfx 20 30) rfl rfl (any_of HT_.out (by kernel_rfl)) (fun _ _ _ h => h) (Or.inl ⟨by rfl, ?_⟩) ?_ ?_
        rotate_left
        · intro w'
          go_simp
          with_reducible rfl
        rotate_left
        · simp only [Act.put, List.setIfInBounds_toArray, List.set_cons_zero, List.set_cons_succ, i64_w, i32_w]
          rfl
        refine take_ (i := 20) (N := (some 25)) (v := ?_) (a' := ?_) (pfx 21 30) rfl rfl (take_ofW HT_.out HW_.out (by kernel_rfl)) (fun _ _ _ h => h) (Or.inl ⟨by rfl, ?_⟩) hHeld ?_ ?_
        rotate_left
        · rintro w' ⟨s0, s1, s2⟩
          go_simp
          with_reducible rfl
        rotate_left
        · simp only [Act.put, List.setIfInBounds_toArray, List.set_cons_zero, List.set_cons_succ, i64_w, i32_w]
          rfl
        refine pure_ (i := 21) (N := (some 26)) (v := ?_) (a' := ?_) (pfx 22 30) rfl rfl (any_of HT_.out (by kernel_rfl)) (fun _ _ _ h => h) (Or.inl ⟨by rfl, ?_⟩) ?_ ?_
        rotate_left
        · intro w'
          go_simp
          with_reducible rfl
        rotate_left
        · simp only [Act.put, List.setIfInBounds_toArray, List.set_cons_zero, List.set_cons_succ, i64_w, i32_w]
          rfl
        refine pure_ (i := 22) (N := (some 27)) (v := ?_) (a' := ?_) (pfx 23 30) rfl rfl (any_of HT_.out (by kernel_rfl)) (fun _ _ _ h => h) (Or.inl ⟨by rfl, ?_⟩) ?_ ?_
        rotate_left
        · intro w'
          go_simp
          with_reducible rfl
        rotate_left
        · simp only [Act.put, List.setIfInBounds_toArray, List.set_cons_zero, List.set_cons_succ, i64_w, i32_w]
          rfl
        refine pure_ (i := 23) (N := (some 28)) (v := ?_) (a' := ?_) (pfx 24 30) rfl rfl (any_of HT_.out (by kernel_rfl)) (fun _ _ _ h => h) (Or.inl ⟨by rfl, ?_⟩) ?_ ?_
        rotate_left
        · intro w'
          go_simp
          with_reducible rfl
        rotate_left
        · simp only [Act.put, List.setIfInBounds_toArray, List.set_cons_zero, List.set_cons_succ, i64_w, i32_w]
          rfl
        refine take_ (i := 24) (N := (some 29)) (v := ?_) (a' := ?_) (pfx 25 30) rfl rfl (take_ofW HT_.out HW_.out (by kernel_rfl)) (fun _ _ _ h => h) (Or.inl ⟨by rfl, ?_⟩) hHeld ?_ ?_
        rotate_left
        · rintro w' ⟨s0, s1, s2⟩
          go_simp
          with_reducible rfl
        rotate_left
        · simp only [Act.put, List.setIfInBounds_toArray, List.set_cons_zero, List.set_cons_succ, i64_w, i32_w]
          rfl
        refine pure_ (i := 25) (N := (some 30)) (v := ?_) (a' := ?_) (pfx 26 30) rfl rfl (any_of HT_.out (by kernel_rfl)) (fun _ _ _ h => h) (Or.inl ⟨by rfl, ?_⟩) ?_ ?_
        rotate_left
        · intro w'
          go_simp
          with_reducible rfl
        rotate_left
        · simp only [Act.put, List.setIfInBounds_toArray, List.set_cons_zero, List.set_cons_succ, i64_w, i32_w]
          rfl
        refine pure_ (i := 26) (N := (some 31)) (v := ?_) (a' := ?_) (pfx 27 30) rfl rfl (any_of HT_.out (by kernel_rfl)) (fun _ _ _ h => h) (Or.inl ⟨by rfl, ?_⟩) ?_ ?_
        rotate_left
        · intro w'
          go_simp
          with_reducible rfl
        rotate_left
        · simp only [Act.put, List.setIfInBounds_toArray, List.set_cons_zero, List.set_cons_succ, i64_w, i32_w]
          rfl
        refine pure_ (i := 27) (N := (some 32)) (v := ?_) (a' := ?_) (pfx 28 30) rfl rfl (any_of HT_.out (by kernel_rfl)) (fun _ _ _ h => h) (Or.inl ⟨by rfl, ?_⟩) ?_ ?_
        rotate_left
        · intro w'
          go_simp
          with_reducible rfl
        rotate_left
        · simp only [Act.put, List.setIfInBounds_toArray, List.set_cons_zero, List.set_cons_succ, i64_w, i32_w]
          rfl
        refine pure_ (i := 28) (N := (some 33)) (v := ?_) (a' := ?_) (pfx 29 30) rfl rfl (any_of HT_.out (by kernel_rfl)) (fun _ _ _ h => h) (Or.inl ⟨by rfl, ?_⟩) ?_ ?_
        rotate_left
        · intro w'
          go_simp
          with_reducible rfl
        rotate_left
        · simp only [Act.put, List.setIfInBounds_toArray, List.set_cons_zero, List.set_cons_succ, i64_w, i32_w]
          rfl
        refine pure_ (i := 29) (N := (some 4)) (v := ?_) (a' := ?_) (pfx 30 30) rfl rfl (any_of HT_.out (by kernel_rfl)) (fun _ _ _ h => h) (Or.inl ⟨by rfl, ?_⟩) ?_ ?_
        rotate_left
        · intro w'
          go_simp
          with_reducible rfl
        rotate_left
        · simp only [Act.put, List.setIfInBounds_toArray, List.set_cons_zero, List.set_cons_succ, i64_w, i32_w]
          rfl
        refine done_ (done_of HT_.out (by kernel_rfl)) ?_
        go_wp2
        go_ret
        exact ⟨by simp [q3], below_drew (Below.refl _ _)⟩
      · go_enter Tryd.func58, Tryd.ntmps58
        go_upto_region 1 with fail
        refine start_ (n := 30) (S := fun w' => w'.cell? ⟨r, 0, none⟩ = some (.string s) ∧ w'.cell? ⟨r, 1, none⟩ = some (.int .i64 (b : Int)) ∧ w'.cell? ⟨r, 2, none⟩ = some (.bool true)) (ds := []) (pfx 0 30) (by kernel_rfl) rfl (by kernel_rfl) ⟨c0, c1, c2⟩ (fun hHeld => ?_)
        refine with_tabW tab58_1 bits58_1 (fun HT_ HW_ => ?_)
        refine pure_ (i := 0) (N := (some 5)) (v := ?_) (a' := ?_) (pfx 1 30) rfl rfl (any_of HT_.out (by kernel_rfl)) (fun _ _ _ h => h) (Or.inl ⟨by rfl, ?_⟩) ?_ ?_
        rotate_left
        · intro w'
          go_simp
          with_reducible rfl
        rotate_left
        · simp only [Act.put, List.setIfInBounds_toArray, List.set_cons_zero, List.set_cons_succ, i64_w, i32_w]
          rfl
        refine pure_ (i := 1) (N := (some 6)) (v := ?_) (a' := ?_) (pfx 2 30) rfl rfl (any_of HT_.out (by kernel_rfl)) (fun _ _ _ h => h) (Or.inl ⟨by rfl, ?_⟩) ?_ ?_
        rotate_left
        · intro w'
          go_simp
          with_reducible rfl
        rotate_left
        · simp only [Act.put, List.setIfInBounds_toArray, List.set_cons_zero, List.set_cons_succ, i64_w, i32_w]
          rfl
        refine pure_ (i := 2) (N := (some 7)) (v := ?_) (a' := ?_) (pfx 3 30) rfl rfl (any_of HT_.out (by kernel_rfl)) (fun _ _ _ h => h) (Or.inl ⟨by rfl, ?_⟩) ?_ ?_
        rotate_left
        · intro w'
          go_simp
          with_reducible rfl
        rotate_left
        · simp only [Act.put, List.setIfInBounds_toArray, List.set_cons_zero, List.set_cons_succ, i64_w, i32_w]
          rfl
        refine take_ (i := 3) (N := (some 8)) (v := ?_) (a' := ?_) (pfx 4 30) rfl rfl (take_ofW HT_.out HW_.out (by kernel_rfl)) (fun _ _ _ h => h) (Or.inl ⟨by rfl, ?_⟩) hHeld ?_ ?_
        rotate_left
        · rintro w' ⟨s0, s1, s2⟩
          go_simp
          with_reducible rfl
        rotate_left
        · simp only [Act.put, List.setIfInBounds_toArray, List.set_cons_zero, List.set_cons_succ, i64_w, i32_w]
          rfl
        refine pure_ (i := 4) (N := (some 9)) (v := ?_) (a' := ?_) (pfx 5 30) rfl rfl (any_of HT_.out (by kernel_rfl)) (fun _ _ _ h => h) (Or.inl ⟨by rfl, ?_⟩) ?_ ?_
        rotate_left
        · intro w'
          go_simp
          with_reducible rfl
        rotate_left
        · simp only [Act.put, List.setIfInBounds_toArray, List.set_cons_zero, List.set_cons_succ, i64_w, i32_w]
          rfl
        refine pure_ (i := 5) (N := (some 10)) (v := ?_) (a' := ?_) (pfx 6 30) rfl rfl (any_of HT_.out (by kernel_rfl)) (fun _ _ _ h => h) (Or.inl ⟨by rfl, ?_⟩) ?_ ?_
        rotate_left
        · intro w'
          go_simp
          with_reducible rfl
        rotate_left
        · simp only [Act.put, List.setIfInBounds_toArray, List.set_cons_zero, List.set_cons_succ, i64_w, i32_w]
          rfl
        refine pure_ (i := 6) (N := (some 11)) (v := ?_) (a' := ?_) (pfx 7 30) rfl rfl (any_of HT_.out (by kernel_rfl)) (fun _ _ _ h => h) (Or.inl ⟨by rfl, ?_⟩) ?_ ?_
        rotate_left
        · intro w'
          go_simp
          with_reducible rfl
        rotate_left
        · simp only [Act.put, List.setIfInBounds_toArray, List.set_cons_zero, List.set_cons_succ, i64_w, i32_w]
          rfl
        refine pure_ (i := 7) (N := (some 12)) (v := ?_) (a' := ?_) (pfx 8 30) rfl rfl (any_of HT_.out (by kernel_rfl)) (fun _ _ _ h => h) (Or.inl ⟨by rfl, ?_⟩) ?_ ?_
        rotate_left
        · intro w'
          go_simp
          with_reducible rfl
        rotate_left
        · simp only [Act.put, List.setIfInBounds_toArray, List.set_cons_zero, List.set_cons_succ, i64_w, i32_w]
          rfl
        refine take_ (i := 8) (N := (some 13)) (v := ?_) (a' := ?_) (pfx 9 30) rfl rfl (take_ofW HT_.out HW_.out (by kernel_rfl)) (fun _ _ _ h => h) (Or.inl ⟨by rfl, ?_⟩) hHeld ?_ ?_
        rotate_left
        · rintro w' ⟨s0, s1, s2⟩
          go_simp
          with_reducible rfl
        rotate_left
        · simp only [Act.put, List.setIfInBounds_toArray, List.set_cons_zero, List.set_cons_succ, i64_w, i32_w]
          rfl
        refine pure_ (i := 9) (N := (some 14)) (v := ?_) (a' := ?_) (pfx 10 30) rfl rfl (any_of HT_.out (by kernel_rfl)) (fun _ _ _ h => h) (Or.inl ⟨by rfl, ?_⟩) ?_ ?_
        rotate_left
        · intro w'
          go_simp
          with_reducible rfl
        rotate_left
        · simp only [Act.put, List.setIfInBounds_toArray, List.set_cons_zero, List.set_cons_succ, i64_w, i32_w]
          rfl
        refine pure_ (i := 10) (N := (some 15)) (v := ?_) (a' := ?_) (pfx 11 30) rfl rfl (any_of HT_.out (by kernel_rfl)) (fun _ _ _ h => h) (Or.inl ⟨by rfl, ?_⟩) ?_ ?_
        rotate_left
        · intro w'
          go_simp
          with_reducible rfl
        rotate_left
        · simp only [Act.put, List.setIfInBounds_toArray, List.set_cons_zero, List.set_cons_succ, i64_w, i32_w]
          rfl
        refine pure_ (i := 11) (N := (some 16)) (v := ?_) (a' := ?_) (pfx 12 30) rfl rfl (any_of HT_.out (by kernel_rfl)) (fun _ _ _ h => h) (Or.inl ⟨by rfl, ?_⟩) ?_ ?_
        rotate_left
        · intro w'
          go_simp
          with_reducible rfl
        rotate_left
        · simp only [Act.put, List.setIfInBounds_toArray, List.set_cons_zero, List.set_cons_succ, i64_w, i32_w]
          rfl
        refine take_ (i := 12) (N := (some 17)) (v := ?_) (a' := ?_) (pfx 13 30) rfl rfl (take_ofW HT_.out HW_.out (by kernel_rfl)) (fun _ _ _ h => h) (Or.inl ⟨by rfl, ?_⟩) hHeld ?_ ?_
        rotate_left
        · rintro w' ⟨s0, s1, s2⟩
          go_simp
          with_reducible rfl
        rotate_left
        · simp only [Act.put, List.setIfInBounds_toArray, List.set_cons_zero, List.set_cons_succ, i64_w, i32_w]
          rfl
        refine pure_ (i := 13) (N := (some 18)) (v := ?_) (a' := ?_) (pfx 14 30) rfl rfl (any_of HT_.out (by kernel_rfl)) (fun _ _ _ h => h) (Or.inl ⟨by rfl, ?_⟩) ?_ ?_
        rotate_left
        · intro w'
          go_simp
          with_reducible rfl
        rotate_left
        · simp only [Act.put, List.setIfInBounds_toArray, List.set_cons_zero, List.set_cons_succ, i64_w, i32_w]
          rfl
        refine pure_ (i := 14) (N := (some 19)) (v := ?_) (a' := ?_) (pfx 15 30) rfl rfl (any_of HT_.out (by kernel_rfl)) (fun _ _ _ h => h) (Or.inl ⟨by rfl, ?_⟩) ?_ ?_
        rotate_left
        · intro w'
          go_simp
          with_reducible rfl
        rotate_left
        · simp only [Act.put, List.setIfInBounds_toArray, List.set_cons_zero, List.set_cons_succ, i64_w, i32_w]
          rfl
        refine pure_ (i := 15) (N := (some 20)) (v := ?_) (a' := ?_) (pfx 16 30) rfl rfl (any_of HT_.out (by kernel_rfl)) (fun _ _ _ h => h) (Or.inl ⟨by rfl, ?_⟩) ?_ ?_
        rotate_left
        · intro w'
          go_simp
          with_reducible rfl
        rotate_left
        · simp only [Act.put, List.setIfInBounds_toArray, List.set_cons_zero, List.set_cons_succ, i64_w, i32_w]
          rfl
        refine pure_ (i := 16) (N := (some 21)) (v := ?_) (a' := ?_) (pfx 17 30) rfl rfl (any_of HT_.out (by kernel_rfl)) (fun _ _ _ h => h) (Or.inl ⟨by rfl, ?_⟩) ?_ ?_
        rotate_left
        · intro w'
          go_simp
          with_reducible rfl
        rotate_left
        · simp only [Act.put, List.setIfInBounds_toArray, List.set_cons_zero, List.set_cons_succ, i64_w, i32_w]
          rfl
        refine pure_ (i := 17) (N := (some 22)) (v := ?_) (a' := ?_) (pfx 18 30) rfl rfl (any_of HT_.out (by kernel_rfl)) (fun _ _ _ h => h) (Or.inl ⟨by rfl, ?_⟩) ?_ ?_
        rotate_left
        · intro w'
          go_simp
          with_reducible rfl
        rotate_left
        · simp only [Act.put, List.setIfInBounds_toArray, List.set_cons_zero, List.set_cons_succ, i64_w, i32_w]
          rfl
        refine pure_ (i := 18) (N := (some 23)) (v := ?_) (a' := ?_) (pfx 19 30) rfl rfl (any_of HT_.out (by kernel_rfl)) (fun _ _ _ h => h) (Or.inl ⟨by rfl, ?_⟩) ?_ ?_
        rotate_left
        · intro w'
          go_simp
          with_reducible rfl
        rotate_left
        · simp only [Act.put, List.setIfInBounds_toArray, List.set_cons_zero, List.set_cons_succ, i64_w, i32_w]
          rfl
        refine pure_ (i := 19) (N := (some 24)) (v := ?_) (a' := ?_) (pfx 20 30) rfl rfl (any_of HT_.out (by kernel_rfl)) (fun _ _ _ h => h) (Or.inl ⟨by rfl, ?_⟩) ?_ ?_
        rotate_left
        · intro w'
          go_simp
          with_reducible rfl
        rotate_left
        · simp only [Act.put, List.setIfInBounds_toArray, List.set_cons_zero, List.set_cons_succ, i64_w, i32_w]
          rfl
        refine take_ (i := 20) (N := (some 25)) (v := ?_) (a' := ?_) (pfx 21 30) rfl rfl (take_ofW HT_.out HW_.out (by kernel_rfl)) (fun _ _ _ h => h) (Or.inl ⟨by rfl, ?_⟩) hHeld ?_ ?_
        rotate_left
        · rintro w' ⟨s0, s1, s2⟩
          go_simp
          with_reducible rfl
        rotate_left
        · simp only [Act.put, List.setIfInBounds_toArray, List.set_cons_zero, List.set_cons_succ, i64_w, i32_w]
          rfl
        refine pure_ (i := 21) (N := (some 26)) (v := ?_) (a' := ?_) (pfx 22 30) rfl rfl (any_of HT_.out (by kernel_rfl)) (fun _ _ _ h => h) (Or.inl ⟨by rfl, ?_⟩) ?_ ?_
        rotate_left
        · intro w'
          go_simp
          with_reducible rfl
        rotate_left
        · simp only [Act.put, List.setIfInBounds_toArray, List.set_cons_zero, List.set_cons_succ, i64_w, i32_w]
          rfl
        refine pure_ (i := 22) (N := (some 27)) (v := ?_) (a' := ?_) (pfx 23 30) rfl rfl (any_of HT_.out (by kernel_rfl)) (fun _ _ _ h => h) (Or.inl ⟨by rfl, ?_⟩) ?_ ?_
        rotate_left
        · intro w'
          go_simp
          with_reducible rfl
        rotate_left
        · simp only [Act.put, List.setIfInBounds_toArray, List.set_cons_zero, List.set_cons_succ, i64_w, i32_w]
          rfl
        refine pure_ (i := 23) (N := (some 28)) (v := ?_) (a' := ?_) (pfx 24 30) rfl rfl (any_of HT_.out (by kernel_rfl)) (fun _ _ _ h => h) (Or.inl ⟨by rfl, ?_⟩) ?_ ?_
        rotate_left
        · intro w'
          go_simp
          with_reducible rfl
        rotate_left
        · simp only [Act.put, List.setIfInBounds_toArray, List.set_cons_zero, List.set_cons_succ, i64_w, i32_w]
          rfl
        refine take_ (i := 24) (N := (some 29)) (v := ?_) (a' := ?_) (pfx 25 30) rfl rfl (take_ofW HT_.out HW_.out (by kernel_rfl)) (fun _ _ _ h => h) (Or.inl ⟨by rfl, ?_⟩) hHeld ?_ ?_
        rotate_left
        · rintro w' ⟨s0, s1, s2⟩
          go_simp
          with_reducible rfl
        rotate_left
        · simp only [Act.put, List.setIfInBounds_toArray, List.set_cons_zero, List.set_cons_succ, i64_w, i32_w]
          rfl
        refine pure_ (i := 25) (N := (some 30)) (v := ?_) (a' := ?_) (pfx 26 30) rfl rfl (any_of HT_.out (by kernel_rfl)) (fun _ _ _ h => h) (Or.inl ⟨by rfl, ?_⟩) ?_ ?_
        rotate_left
        · intro w'
          go_simp
          with_reducible rfl
        rotate_left
        · simp only [Act.put, List.setIfInBounds_toArray, List.set_cons_zero, List.set_cons_succ, i64_w, i32_w]
          rfl
        refine pure_ (i := 26) (N := (some 31)) (v := ?_) (a' := ?_) (pfx 27 30) rfl rfl (any_of HT_.out (by kernel_rfl)) (fun _ _ _ h => h) (Or.inl ⟨by rfl, ?_⟩) ?_ ?_
        rotate_left
        · intro w'
          go_simp
          with_reducible rfl
        rotate_left
        · simp only [Act.put, List.setIfInBounds_toArray, List.set_cons_zero, List.set_cons_succ, i64_w, i32_w]
          rfl
        refine pure_ (i := 27) (N := (some 32)) (v := ?_) (a' := ?_) (pfx 28 30) rfl rfl (any_of HT_.out (by kernel_rfl)) (fun _ _ _ h => h) (Or.inl ⟨by rfl, ?_⟩) ?_ ?_
        rotate_left
        · intro w'
          go_simp
          with_reducible rfl
        rotate_left
        · simp only [Act.put, List.setIfInBounds_toArray, List.set_cons_zero, List.set_cons_succ, i64_w, i32_w]
          rfl
        refine pure_ (i := 28) (N := (some 33)) (v := ?_) (a' := ?_) (pfx 29 30) rfl rfl (any_of HT_.out (by kernel_rfl)) (fun _ _ _ h => h) (Or.inl ⟨by rfl, ?_⟩) ?_ ?_
        rotate_left
        · intro w'
          go_simp
          with_reducible rfl
        rotate_left
        · simp only [Act.put, List.setIfInBounds_toArray, List.set_cons_zero, List.set_cons_succ, i64_w, i32_w]
          rfl
        refine pure_ (i := 29) (N := (some 4)) (v := ?_) (a' := ?_) (pfx 30 30) rfl rfl (any_of HT_.out (by kernel_rfl)) (fun _ _ _ h => h) (Or.inl ⟨by rfl, ?_⟩) ?_ ?_
        rotate_left
        · intro w'
          go_simp
          with_reducible rfl
        rotate_left
        · simp only [Act.put, List.setIfInBounds_toArray, List.set_cons_zero, List.set_cons_succ, i64_w, i32_w]
          rfl
        refine done_ (done_of HT_.out (by kernel_rfl)) ?_
        go_wp2
        go_ret
        exact ⟨by simp [q3], below_drew (Below.refl _ _)⟩
    · rw [decide_eq_false q]
      go_enter Tryd.func58, Tryd.ntmps58
      go_upto_region 1 with fail
      refine start_ (n := 30) (S := fun w' => w'.cell? ⟨r, 0, none⟩ = some (.string s) ∧ w'.cell? ⟨r, 1, none⟩ = some (.int .i64 (b : Int)) ∧ w'.cell? ⟨r, 2, none⟩ = some (.bool true)) (ds := []) (pfx 0 30) (by kernel_rfl) rfl (by kernel_rfl) ⟨c0, c1, c2⟩ (fun hHeld => ?_)
      refine with_tabW tab58_1 bits58_1 (fun HT_ HW_ => ?_)
      refine pure_ (i := 0) (N := (some 5)) (v := ?_) (a' := ?_) (pfx 1 30) rfl rfl (any_of HT_.out (by kernel_rfl)) (fun _ _ _ h => h) (Or.inl ⟨by rfl, ?_⟩) ?_ ?_
      rotate_left
      · intro w'
        go_simp
        with_reducible rfl
      rotate_left
      · simp only [Act.put, List.setIfInBounds_toArray, List.set_cons_zero, List.set_cons_succ, i64_w, i32_w]
        rfl
      refine pure_ (i := 1) (N := (some 6)) (v := ?_) (a' := ?_) (pfx 2 30) rfl rfl (any_of HT_.out (by kernel_rfl)) (fun _ _ _ h => h) (Or.inl ⟨by rfl, ?_⟩) ?_ ?_
      rotate_left
      · intro w'
        go_simp
        with_reducible rfl
      rotate_left
      · simp only [Act.put, List.setIfInBounds_toArray, List.set_cons_zero, List.set_cons_succ, i64_w, i32_w]
        rfl
      refine pure_ (i := 2) (N := (some 7)) (v := ?_) (a' := ?_) (pfx 3 30) rfl rfl (any_of HT_.out (by kernel_rfl)) (fun _ _ _ h => h) (Or.inl ⟨by rfl, ?_⟩) ?_ ?_
      rotate_left
      · intro w'
        go_simp
        with_reducible rfl
      rotate_left
      · simp only [Act.put, List.setIfInBounds_toArray, List.set_cons_zero, List.set_cons_succ, i64_w, i32_w]
        rfl
      refine take_ (i := 3) (N := (some 8)) (v := ?_) (a' := ?_) (pfx 4 30) rfl rfl (take_ofW HT_.out HW_.out (by kernel_rfl)) (fun _ _ _ h => h) (Or.inl ⟨by rfl, ?_⟩) hHeld ?_ ?_
      rotate_left
      · rintro w' ⟨s0, s1, s2⟩
        go_simp
        with_reducible rfl
      rotate_left
      · simp only [Act.put, List.setIfInBounds_toArray, List.set_cons_zero, List.set_cons_succ, i64_w, i32_w]
        rfl
      refine pure_ (i := 4) (N := (some 9)) (v := ?_) (a' := ?_) (pfx 5 30) rfl rfl (any_of HT_.out (by kernel_rfl)) (fun _ _ _ h => h) (Or.inl ⟨by rfl, ?_⟩) ?_ ?_
      rotate_left
      · intro w'
        go_simp
        with_reducible rfl
      rotate_left
      · simp only [Act.put, List.setIfInBounds_toArray, List.set_cons_zero, List.set_cons_succ, i64_w, i32_w]
        rfl
      refine pure_ (i := 5) (N := (some 10)) (v := ?_) (a' := ?_) (pfx 6 30) rfl rfl (any_of HT_.out (by kernel_rfl)) (fun _ _ _ h => h) (Or.inl ⟨by rfl, ?_⟩) ?_ ?_
      rotate_left
      · intro w'
        go_simp
        with_reducible rfl
      rotate_left
      · simp only [Act.put, List.setIfInBounds_toArray, List.set_cons_zero, List.set_cons_succ, i64_w, i32_w]
        rfl
      refine pure_ (i := 6) (N := (some 11)) (v := ?_) (a' := ?_) (pfx 7 30) rfl rfl (any_of HT_.out (by kernel_rfl)) (fun _ _ _ h => h) (Or.inl ⟨by rfl, ?_⟩) ?_ ?_
      rotate_left
      · intro w'
        go_simp
        with_reducible rfl
      rotate_left
      · simp only [Act.put, List.setIfInBounds_toArray, List.set_cons_zero, List.set_cons_succ, i64_w, i32_w]
        rfl
      refine pure_ (i := 7) (N := (some 12)) (v := ?_) (a' := ?_) (pfx 8 30) rfl rfl (any_of HT_.out (by kernel_rfl)) (fun _ _ _ h => h) (Or.inl ⟨by rfl, ?_⟩) ?_ ?_
      rotate_left
      · intro w'
        go_simp
        with_reducible rfl
      rotate_left
      · simp only [Act.put, List.setIfInBounds_toArray, List.set_cons_zero, List.set_cons_succ, i64_w, i32_w]
        rfl
      refine take_ (i := 8) (N := (some 13)) (v := ?_) (a' := ?_) (pfx 9 30) rfl rfl (take_ofW HT_.out HW_.out (by kernel_rfl)) (fun _ _ _ h => h) (Or.inl ⟨by rfl, ?_⟩) hHeld ?_ ?_
      rotate_left
      · rintro w' ⟨s0, s1, s2⟩
        go_simp
        with_reducible rfl
      rotate_left
      · simp only [Act.put, List.setIfInBounds_toArray, List.set_cons_zero, List.set_cons_succ, i64_w, i32_w]
        rfl
      refine pure_ (i := 9) (N := (some 14)) (v := ?_) (a' := ?_) (pfx 10 30) rfl rfl (any_of HT_.out (by kernel_rfl)) (fun _ _ _ h => h) (Or.inl ⟨by rfl, ?_⟩) ?_ ?_
      rotate_left
      · intro w'
        go_simp
        with_reducible rfl
      rotate_left
      · simp only [Act.put, List.setIfInBounds_toArray, List.set_cons_zero, List.set_cons_succ, i64_w, i32_w]
        rfl
      refine pure_ (i := 10) (N := (some 15)) (v := ?_) (a' := ?_) (pfx 11 30) rfl rfl (any_of HT_.out (by kernel_rfl)) (fun _ _ _ h => h) (Or.inl ⟨by rfl, ?_⟩) ?_ ?_
      rotate_left
      · intro w'
        go_simp
        with_reducible rfl
      rotate_left
      · simp only [Act.put, List.setIfInBounds_toArray, List.set_cons_zero, List.set_cons_succ, i64_w, i32_w]
        rfl
      refine pure_ (i := 11) (N := (some 16)) (v := ?_) (a' := ?_) (pfx 12 30) rfl rfl (any_of HT_.out (by kernel_rfl)) (fun _ _ _ h => h) (Or.inl ⟨by rfl, ?_⟩) ?_ ?_
      rotate_left
      · intro w'
        go_simp
        with_reducible rfl
      rotate_left
      · simp only [Act.put, List.setIfInBounds_toArray, List.set_cons_zero, List.set_cons_succ, i64_w, i32_w]
        rfl
      refine take_ (i := 12) (N := (some 17)) (v := ?_) (a' := ?_) (pfx 13 30) rfl rfl (take_ofW HT_.out HW_.out (by kernel_rfl)) (fun _ _ _ h => h) (Or.inl ⟨by rfl, ?_⟩) hHeld ?_ ?_
      rotate_left
      · rintro w' ⟨s0, s1, s2⟩
        go_simp
        with_reducible rfl
      rotate_left
      · simp only [Act.put, List.setIfInBounds_toArray, List.set_cons_zero, List.set_cons_succ, i64_w, i32_w]
        rfl
      refine pure_ (i := 13) (N := (some 18)) (v := ?_) (a' := ?_) (pfx 14 30) rfl rfl (any_of HT_.out (by kernel_rfl)) (fun _ _ _ h => h) (Or.inl ⟨by rfl, ?_⟩) ?_ ?_
      rotate_left
      · intro w'
        go_simp
        with_reducible rfl
      rotate_left
      · simp only [Act.put, List.setIfInBounds_toArray, List.set_cons_zero, List.set_cons_succ, i64_w, i32_w]
        rfl
      refine pure_ (i := 14) (N := (some 19)) (v := ?_) (a' := ?_) (pfx 15 30) rfl rfl (any_of HT_.out (by kernel_rfl)) (fun _ _ _ h => h) (Or.inl ⟨by rfl, ?_⟩) ?_ ?_
      rotate_left
      · intro w'
        go_simp
        with_reducible rfl
      rotate_left
      · simp only [Act.put, List.setIfInBounds_toArray, List.set_cons_zero, List.set_cons_succ, i64_w, i32_w]
        rfl
      refine pure_ (i := 15) (N := (some 20)) (v := ?_) (a' := ?_) (pfx 16 30) rfl rfl (any_of HT_.out (by kernel_rfl)) (fun _ _ _ h => h) (Or.inl ⟨by rfl, ?_⟩) ?_ ?_
      rotate_left
      · intro w'
        go_simp
        with_reducible rfl
      rotate_left
      · simp only [Act.put, List.setIfInBounds_toArray, List.set_cons_zero, List.set_cons_succ, i64_w, i32_w]
        rfl
      refine pure_ (i := 16) (N := (some 21)) (v := ?_) (a' := ?_) (pfx 17 30) rfl rfl (any_of HT_.out (by kernel_rfl)) (fun _ _ _ h => h) (Or.inl ⟨by rfl, ?_⟩) ?_ ?_
      rotate_left
      · intro w'
        go_simp
        with_reducible rfl
      rotate_left
      · simp only [Act.put, List.setIfInBounds_toArray, List.set_cons_zero, List.set_cons_succ, i64_w, i32_w]
        rfl
      refine pure_ (i := 17) (N := (some 22)) (v := undef) (a' := ?_) (pfx 18 30) rfl rfl (any_of HT_.out (by kernel_rfl)) (fun _ _ _ h => h) (Or.inr ⟨by rfl, rfl⟩) ?_ ?_
      rotate_left
      · simp only [Act.put, List.setIfInBounds_toArray, List.set_cons_zero, List.set_cons_succ, i64_w, i32_w]
        rfl
      refine pure_ (i := 18) (N := (some 23)) (v := undef) (a' := ?_) (pfx 19 30) rfl rfl (any_of HT_.out (by kernel_rfl)) (fun _ _ _ h => h) (Or.inr ⟨by rfl, rfl⟩) ?_ ?_
      rotate_left
      · simp only [Act.put, List.setIfInBounds_toArray, List.set_cons_zero, List.set_cons_succ, i64_w, i32_w]
        rfl
      refine pure_ (i := 19) (N := (some 24)) (v := undef) (a' := ?_) (pfx 20 30) rfl rfl (any_of HT_.out (by kernel_rfl)) (fun _ _ _ h => h) (Or.inr ⟨by rfl, rfl⟩) ?_ ?_
      rotate_left
      · simp only [Act.put, List.setIfInBounds_toArray, List.set_cons_zero, List.set_cons_succ, i64_w, i32_w]
        rfl
      refine pure_ (i := 20) (N := (some 25)) (v := undef) (a' := ?_) (pfx 21 30) rfl rfl (any_of HT_.out (by kernel_rfl)) (fun _ _ _ h => h) (Or.inr ⟨by rfl, rfl⟩) ?_ ?_
      rotate_left
      · simp only [Act.put, List.setIfInBounds_toArray, List.set_cons_zero, List.set_cons_succ, i64_w, i32_w]
        rfl
      refine pure_ (i := 21) (N := (some 26)) (v := undef) (a' := ?_) (pfx 22 30) rfl rfl (any_of HT_.out (by kernel_rfl)) (fun _ _ _ h => h) (Or.inr ⟨by rfl, rfl⟩) ?_ ?_
      rotate_left
      · simp only [Act.put, List.setIfInBounds_toArray, List.set_cons_zero, List.set_cons_succ, i64_w, i32_w]
        rfl
      refine pure_ (i := 22) (N := (some 27)) (v := undef) (a' := ?_) (pfx 23 30) rfl rfl (any_of HT_.out (by kernel_rfl)) (fun _ _ _ h => h) (Or.inr ⟨by rfl, rfl⟩) ?_ ?_
      rotate_left
      · simp only [Act.put, List.setIfInBounds_toArray, List.set_cons_zero, List.set_cons_succ, i64_w, i32_w]
        rfl
      refine pure_ (i := 23) (N := (some 28)) (v := undef) (a' := ?_) (pfx 24 30) rfl rfl (any_of HT_.out (by kernel_rfl)) (fun _ _ _ h => h) (Or.inr ⟨by rfl, rfl⟩) ?_ ?_
      rotate_left
      · simp only [Act.put, List.setIfInBounds_toArray, List.set_cons_zero, List.set_cons_succ, i64_w, i32_w]
        rfl
      refine pure_ (i := 24) (N := (some 29)) (v := undef) (a' := ?_) (pfx 25 30) rfl rfl (any_of HT_.out (by kernel_rfl)) (fun _ _ _ h => h) (Or.inr ⟨by rfl, rfl⟩) ?_ ?_
      rotate_left
      · simp only [Act.put, List.setIfInBounds_toArray, List.set_cons_zero, List.set_cons_succ, i64_w, i32_w]
        rfl
      refine pure_ (i := 25) (N := (some 30)) (v := undef) (a' := ?_) (pfx 26 30) rfl rfl (any_of HT_.out (by kernel_rfl)) (fun _ _ _ h => h) (Or.inr ⟨by rfl, rfl⟩) ?_ ?_
      rotate_left
      · simp only [Act.put, List.setIfInBounds_toArray, List.set_cons_zero, List.set_cons_succ, i64_w, i32_w]
        rfl
      refine pure_ (i := 26) (N := (some 31)) (v := undef) (a' := ?_) (pfx 27 30) rfl rfl (any_of HT_.out (by kernel_rfl)) (fun _ _ _ h => h) (Or.inr ⟨by rfl, rfl⟩) ?_ ?_
      rotate_left
      · simp only [Act.put, List.setIfInBounds_toArray, List.set_cons_zero, List.set_cons_succ, i64_w, i32_w]
        rfl
      refine pure_ (i := 27) (N := (some 32)) (v := undef) (a' := ?_) (pfx 28 30) rfl rfl (any_of HT_.out (by kernel_rfl)) (fun _ _ _ h => h) (Or.inr ⟨by rfl, rfl⟩) ?_ ?_
      rotate_left
      · simp only [Act.put, List.setIfInBounds_toArray, List.set_cons_zero, List.set_cons_succ, i64_w, i32_w]
        rfl
      refine pure_ (i := 28) (N := (some 33)) (v := ?_) (a' := ?_) (pfx 29 30) rfl rfl (any_of HT_.out (by kernel_rfl)) (fun _ _ _ h => h) (Or.inl ⟨by rfl, ?_⟩) ?_ ?_
      rotate_left
      · intro w'
        go_simp
        with_reducible rfl
      rotate_left
      · simp only [Act.put, List.setIfInBounds_toArray, List.set_cons_zero, List.set_cons_succ, i64_w, i32_w]
        rfl
      refine pure_ (i := 29) (N := (some 4)) (v := ?_) (a' := ?_) (pfx 30 30) rfl rfl (any_of HT_.out (by kernel_rfl)) (fun _ _ _ h => h) (Or.inl ⟨by rfl, ?_⟩) ?_ ?_
      rotate_left
      · intro w'
        go_simp
        with_reducible rfl
      rotate_left
      · simp only [Act.put, List.setIfInBounds_toArray, List.set_cons_zero, List.set_cons_succ, i64_w, i32_w]
        rfl
      refine done_ (done_of HT_.out (by kernel_rfl)) ?_
      go_wp2
      go_ret
      exact ⟨rfl, below_drew (Below.refl _ _)⟩
end Go.Proofs.YtbnonnogkgbpiaaDoor.Reader
end
section
namespace Go.Proofs.YtbnonnogkgbpiaaDoor.Forest
open Go Go.RowKit Go.Maps Go.Proofs.YtbnonnogkgbpiaaDoor.MapI Go.Proofs.YtbnonnogkgbpiaaDoor.TreeKeys Go.Proofs.YtbnonnogkgbpiaaDoorW.PrintWords Go.Proofs.YtbnonnogkgbpiaaDoorW.PrintLast Go.Proofs.YtbnonnogkgbpiaaDoorW.PrintMore
set_option linter.unusedVariables false
set_option linter.unusedSimpArgs false
def Fo.new (st : Int) : Fo := ⟨st, [], fun _ => none, 0, fun _ => none, 0, fun _ => none, 0⟩
set_option maxHeartbeats 4000000 in
set_option maxRecDepth 100000 in
theorem newForest_calls (st : Int) (w : World) :
    Calls Tryd.prog 61 #[.int .i64 st] w fun e w' => ∃ p bl br be, e = .returned (.pointer (some ⟨p, 0, none⟩)) ∧ FoAt w.heap.size w' p (Fo.new st) (.slice none 0 0) bl br be [] ∧ Below w.heap.size w w' := by
  have hmm := @run_makeMap Tryd.prog
  go_enter Tryd.func61, Tryd.ntmps61
  go_wp2
  go_ret
  have hb1 := (Below.refl w.heap.size w).alloc (Nat.le_refl _) (.map #[] 0)
  have hb2 := hb1.alloc hb1.size (.map #[] 0)
  have hb3 := hb2.alloc hb2.size (.map #[] 0)
  have s1 : (w.alloc (.map #[] 0)).heap.size = w.heap.size + 1 := by simp
  have s2 : ((w.alloc (.map #[] 0)).alloc (.map #[] 0)).heap.size = w.heap.size + 2 := by simp
  have s3 : (((w.alloc (.map #[] 0)).alloc (.map #[] 0)).alloc (.map #[] 0)).heap.size = w.heap.size + 3 := by simp
  have m1 := ((((MapI.made w 5).on ((Below.refl _ _).alloc (Nat.le_refl _) (.map #[] 0))).on ((Below.refl _ _).alloc (Nat.le_refl _) (.map #[] 0))).on ((Below.refl _ _).alloc (Nat.le_refl _) (.cells #[.int .i64 st, .slice none 0 0, .map (some w.heap.size), .map (some (w.heap.size + 1)), .map (some (w.heap.size + 2))] 115)))
  have m2 := (((MapI.made (w.alloc (.map #[] 0)) 139).on ((Below.refl _ _).alloc (Nat.le_refl _) (.map #[] 0))).on ((Below.refl _ _).alloc (Nat.le_refl _) (.cells #[.int .i64 st, .slice none 0 0, .map (some w.heap.size), .map (some (w.heap.size + 1)), .map (some (w.heap.size + 2))] 115)))
  have m3 := ((MapI.made ((w.alloc (.map #[] 0)).alloc (.map #[] 0)) 3).on ((Below.refl _ _).alloc (Nat.le_refl _) (.cells #[.int .i64 st, .slice none 0 0, .map (some w.heap.size), .map (some (w.heap.size + 1)), .map (some (w.heap.size + 2))] 115)))
  rw [s1] at m2
  rw [s2] at m3
  refine ⟨_, w.heap.size, w.heap.size + 1, w.heap.size + 2, rfl, ⟨?_, by omega, by omega, by omega, by omega, by omega, by omega, by omega, own_nil _ _ _ _, rfl, fun j v hj => by simp at hj, fun i j u v _ hj => by simp at hj, m1, m2, m3⟩, hb3.alloc hb3.size _⟩
  have h := heap_alloc_new (((w.alloc (.map #[] 0)).alloc (.map #[] 0)).alloc (.map #[] 0)) (.cells #[.int .i64 st, .slice none 0 0, .map (some w.heap.size), .map (some (w.heap.size + 1)), .map (some (w.heap.size + 2))] 115)
  rw [s3] at h
  exact h
end Go.Proofs.YtbnonnogkgbpiaaDoor.Forest
end
section
namespace Go.Proofs.YtbnonnogkgbpiaaDoor.Forest
open Go Go.RowKit Go.Maps Go.Proofs.YtbnonnogkgbpiaaDoor.MapI Go.Proofs.YtbnonnogkgbpiaaDoor.TreeKeys Go.Proofs.YtbnonnogkgbpiaaDoorW.PrintWords Go.Proofs.YtbnonnogkgbpiaaDoorW.PrintLast Go.Proofs.YtbnonnogkgbpiaaDoorW.PrintMore
set_option linter.unusedVariables false
def cost (st : Nat) : Nat → Nat
  | 0 => 1
  | d + 1 => st * cost st d + st + 1
structure Fo.Room (F : Fo) (k : Nat) : Prop where
  a : F.nodes.length + k ≤ 100000000
  b : F.nl + k ≤ 100000000
  c : F.nr + k ≤ 100000000
  d : F.ne + k ≤ 100000000
structure Fo.Ok (F : Fo) : Prop where
  fine : F.Fine
  lv : ∀ kl r, F.lv kl = some r → 0 ≤ r ∧ r < F.nodes.length
  en : ∀ kl r, F.en kl = some r → 0 ≤ r ∧ r < F.nodes.length
theorem Fo.Room.less {F : Fo} {k k' : Nat} (h : F.Room k) (hk : k' ≤ k) : F.Room k' := ⟨by have := h.a; omega, by have := h.b; omega, by have := h.c; omega, by have := h.d; omega⟩
def leafed (st : Nat) (s : Int) (S : Fo × Bool) : (Fo × Bool) × Int := if s ≥ st then ((S.1, true), 0) else (((S.1.leaf s).1, S.2), (S.1.leaf s).2)
def kidsOf (g : List Int → Fo × Bool → (Fo × Bool) × Int) (pre : List Int) (S : Fo × Bool) : Nat → (Fo × Bool) × List Int
  | 0 => (S, [])
  | i + 1 => ((g (pre ++ [(i : Int)]) (kidsOf g pre S i).1).1, (kidsOf g pre S i).2 ++ [(g (pre ++ [(i : Int)]) (kidsOf g pre S i).1).2])
def grow (st : Nat) (f : List Int → Int) : Nat → List Int → Fo × Bool → (Fo × Bool) × Int
  | 0, pre, S => leafed st (f pre) S
  | d + 1, pre, S => ((((kidsOf (grow st f d) pre S st).1.1.branch (kidsOf (grow st f d) pre S st).2).1, (kidsOf (grow st f d) pre S st).1.2), ((kidsOf (grow st f d) pre S st).1.1.branch (kidsOf (grow st f d) pre S st).2).2)
theorem kidsOf_len (g : List Int → Fo × Bool → (Fo × Bool) × Int) (pre : List Int) (S : Fo × Bool) : ∀ i, (kidsOf g pre S i).2.length = i
  | 0 => rfl
  | i + 1 => by
    show (_ ++ [_]).length = _
    rw [List.length_append, kidsOf_len g pre S i]
    rfl
theorem Fo.Ok.leaf {F : Fo} (h : F.Ok) (s : Int) {k : Nat} (hr : F.Room (k + 1)) : (F.leaf s).1.Ok ∧ (F.leaf s).1.Room k ∧ 0 ≤ (F.leaf s).2 ∧ (F.leaf s).2 < (F.leaf s).1.nodes.length ∧ (F.leaf s).1.st = F.st ∧ F.nodes.length ≤ (F.leaf s).1.nodes.length := by
  unfold Fo.leaf
  rcases hf : F.lv (.int .u8 s) with _ | id
  · refine ⟨⟨h.fine, ?_, ?_⟩, ⟨?_, ?_, ?_, ?_⟩, by simp <;> omega, by simp [Fo.newLeaf] <;> omega, rfl, by simp [Fo.newLeaf]⟩
    · intro kl r hk
      show 0 ≤ r ∧ r < ((F.nodes ++ [(s, [])]).length : Int)
      simp only [Fo.newLeaf, upd] at hk
      rw [List.length_append, List.length_singleton]
      split at hk
      · cases hk
        omega
      · have := h.lv kl r hk
        omega
    · intro kl r hk
      show 0 ≤ r ∧ r < ((F.nodes ++ [(s, [])]).length : Int)
      rw [List.length_append, List.length_singleton]
      have := h.en kl r hk
      omega
    · show (F.nodes ++ [(s, [])]).length + k ≤ _
      rw [List.length_append, List.length_singleton]
      have := hr.a
      omega
    · show F.nl + 1 + k ≤ _
      have := hr.b
      omega
    · show F.nr + k ≤ _
      have := hr.c
      omega
    · show F.ne + k ≤ _
      have := hr.d
      omega
  · have := h.lv _ _ hf
    exact ⟨h, hr.less (by omega), this.1, this.2, rfl, Nat.le_refl _⟩
theorem Fo.Ok.branch {F : Fo} (h : F.Ok) (ks : List Int) {k : Nat} (hr : F.Room (k + ks.length + 1)) : (F.branch ks).1.Ok ∧ (F.branch ks).1.Room k ∧ 0 ≤ (F.branch ks).2 ∧ (F.branch ks).2 < (F.branch ks).1.nodes.length ∧ (F.branch ks).1.st = F.st ∧ F.nodes.length ≤ (F.branch ks).1.nodes.length := by
  obtain ⟨f1, f2, f3, f4, f5, f6, f7, f8⟩ := h.fine.rowTo ks ks.length
  have hlv : (F.rowTo ks ks.length).1.lv = F.lv ∧ (F.rowTo ks ks.length).1.nl = F.nl := by
    generalize ks.length = i
    induction i with
    | zero => exact ⟨rfl, rfl⟩
    | succ i ih =>
      show ((F.rowTo ks i).1.step (F.rowTo ks i).2 (rd ks i)).1.lv = _ ∧ ((F.rowTo ks i).1.step (F.rowTo ks i).2 (rd ks i)).1.nl = _
      unfold Fo.step
      split
      · exact ih
      · exact ih
  unfold Fo.branch Fo.ended
  generalize (F.rowTo ks ks.length).1 = G at *
  generalize (F.rowTo ks ks.length).2 = r at *
  have hn : G.nodes.length = F.nodes.length := congrArg List.length f5
  have a1 := hr.a
  have a2 := hr.b
  have a3 := hr.c
  have a4 := hr.d
  rcases hf : G.en (.int .i64 r) with _ | id
  · refine ⟨⟨f1, ?_, ?_⟩, ⟨?_, ?_, ?_, ?_⟩, by simp <;> omega, by simp [Fo.newBranch] <;> omega, f6, by simp [Fo.newBranch] <;> omega⟩
    · intro kl q hk
      show 0 ≤ q ∧ q < ((G.nodes ++ [(0, ks)]).length : Int)
      rw [List.length_append, List.length_singleton]
      have := h.lv kl q (by rw [← hlv.1]; exact hk)
      omega
    · intro kl q hk
      show 0 ≤ q ∧ q < ((G.nodes ++ [(0, ks)]).length : Int)
      rw [List.length_append, List.length_singleton]
      simp only [Fo.newBranch, upd] at hk
      split at hk
      · cases hk
        omega
      · have := h.en kl q (by rw [← f7]; exact hk)
        omega
    · show (G.nodes ++ [(0, ks)]).length + k ≤ _
      rw [List.length_append, List.length_singleton]
      omega
    · show G.nl + k ≤ _
      omega
    · show G.nr + k ≤ _
      omega
    · show G.ne + 1 + k ≤ _
      omega
  · have := h.en _ _ (by rw [← f7]; exact hf)
    dsimp only
    refine ⟨⟨f1, ?_, ?_⟩, ⟨by omega, by omega, by omega, by omega⟩, this.1, by rw [hn]; exact this.2, f6, by omega⟩
    · intro kl q hk
      have := h.lv kl q (by rw [← hlv.1]; exact hk)
      omega
    · intro kl q hk
      have := h.en kl q (by rw [← f7]; exact hk)
      omega
def GrowFits (st : Nat) (g : List Int → Fo × Bool → (Fo × Bool) × Int) (c : Nat) : Prop := ∀ pre S k, S.1.Ok → S.1.Room (c + k) → (g pre S).1.1.Ok ∧ (g pre S).1.1.Room k ∧ 0 ≤ (g pre S).2 ∧ (g pre S).2 ≤ 100000000 ∧ (g pre S).1.1.st = S.1.st
theorem kids_fit {st : Nat} {g : List Int → Fo × Bool → (Fo × Bool) × Int} {c : Nat} (hg : GrowFits st g c) (pre : List Int) (S : Fo × Bool) (h : S.1.Ok) : ∀ (i k : Nat), S.1.Room (i * c + k) → (kidsOf g pre S i).1.1.Ok ∧ (kidsOf g pre S i).1.1.Room k ∧ (∀ v ∈ (kidsOf g pre S i).2, 0 ≤ v ∧ v ≤ 100000000) ∧ (kidsOf g pre S i).1.1.st = S.1.st
  | 0, k, hr => ⟨h, hr.less (by omega), (fun v hv => by cases hv), rfl⟩
  | i + 1, k, hr => by
    obtain ⟨h1, h2, h3, h4⟩ := kids_fit hg pre S h i (c + k) (hr.less (by rw [Nat.add_mul]; omega))
    obtain ⟨g1, g2, g3, g4, g5⟩ := hg (pre ++ [(i : Int)]) (kidsOf g pre S i).1 k h1 h2
    refine ⟨g1, g2, ?_, g5.trans h4⟩
    intro v hv
    rcases List.mem_append.1 hv with hv | hv
    · exact h3 v hv
    · rw [List.mem_singleton.1 hv]
      exact ⟨g3, g4⟩
theorem grow_fit (st : Nat) (f : List Int → Int) : ∀ d, GrowFits st (grow st f d) (cost st d)
  | 0 => by
    intro pre S k h hr
    show (leafed st (f pre) S).1.1.Ok ∧ _
    show (leafed st (f pre) S).1.1.Ok ∧ (leafed st (f pre) S).1.1.Room k ∧ 0 ≤ (leafed st (f pre) S).2 ∧ (leafed st (f pre) S).2 ≤ _ ∧ (leafed st (f pre) S).1.1.st = _
    unfold leafed
    split
    · exact ⟨h, hr.less (by omega), Int.le_refl _, by show (0 : Int) ≤ _; omega, rfl⟩
    · obtain ⟨h1, h2, h3, h4, h5, h6⟩ := h.leaf (f pre) (k := k) (hr.less (by simp only [cost]; omega))
      exact ⟨h1, h2, h3, by have := h2.a; show (S.1.leaf (f pre)).2 ≤ _; omega, h5⟩
  | d + 1 => by
    intro pre S k h hr
    have hl := kidsOf_len (grow st f d) pre S st
    obtain ⟨h1, h2, h3, h4⟩ := kids_fit (grow_fit st f d) pre S h st (k + (kidsOf (grow st f d) pre S st).2.length + 1) (hr.less (by simp only [cost]; omega))
    obtain ⟨g1, g2, g3, g4, g5, g6⟩ := h1.branch _ h2
    exact ⟨g1, g2, g3, by have := g2.a; show ((kidsOf (grow st f d) pre S st).1.1.branch (kidsOf (grow st f d) pre S st).2).2 ≤ _; omega, g5.trans h4⟩
end Go.Proofs.YtbnonnogkgbpiaaDoor.Forest
end
section
namespace Go.Proofs.YtbnonnogkgbpiaaDoor.Forest
open Go Go.RowKit Go.Maps Go.Proofs.YtbnonnogkgbpiaaDoor.MapI Go.Proofs.YtbnonnogkgbpiaaDoor.TreeKeys Go.Proofs.YtbnonnogkgbpiaaDoorW.PrintWords Go.Proofs.YtbnonnogkgbpiaaDoorW.PrintLast Go.Proofs.YtbnonnogkgbpiaaDoorW.PrintMore
set_option linter.unusedVariables false
set_option linter.unusedSimpArgs false
structure Cx where
  n : Nat
  st : Nat
  kf : Nat
  fi : Array Value
  caps : Array Value
  bi : Nat
  bf : Nat
  bn : Nat
  bs : Nat
  bb : Nat
  bm : Nat
  bg : Nat
  gin : Nat
  cin : Nat
  p : Nat
  bl : Nat
  br : Nat
  be : Nat
def Cx.args (x : Cx) (l : Int) : Array Value := #[.int .i64 l, .pointer (some ⟨x.bi, 0, none⟩), .pointer (some ⟨x.bf, 0, none⟩), .pointer (some ⟨x.bn, 0, none⟩), .pointer (some ⟨x.bs, 0, none⟩), .pointer (some ⟨x.bb, 0, none⟩), .pointer (some ⟨x.bm, 0, none⟩), .pointer (some ⟨x.bg, 0, none⟩)]
structure CapAt (B : Nat) (W : World) (x : Cx) (F : Fo) (bad : Bool) (row : List Int) (nv : Value) (K : List Value) : Prop where
  xi : W.heap[x.bi]? = some (.cells #[.int .i64 (x.n : Int)] 3 (0, 0))
  xf : W.heap[x.bf]? = some (.cells #[.func (.func x.kf) x.fi x.caps] 45 (0, 0))
  xn : W.heap[x.bn]? = some (.cells #[.slice (some ⟨x.gin, 0, none⟩) x.n x.cin] 33 (0, 0))
  xs : W.heap[x.bs]? = some (.cells #[.int .i64 (x.st : Int)] 3 (0, 0))
  xb : W.heap[x.bb]? = some (.cells #[.bool bad] 4 (0, 0))
  xm : W.heap[x.bm]? = some (.cells #[.pointer (some ⟨x.p, 0, none⟩)] 105 (0, 0))
  xg : W.heap[x.bg]? = some (.cells #[.func (.func 71) #[] #[.pointer (some ⟨x.bi, 0, none⟩), .pointer (some ⟨x.bf, 0, none⟩), .pointer (some ⟨x.bn, 0, none⟩), .pointer (some ⟨x.bs, 0, none⟩), .pointer (some ⟨x.bb, 0, none⟩), .pointer (some ⟨x.bm, 0, none⟩), .pointer (some ⟨x.bg, 0, none⟩)]] 108 (0, 0))
  inr : W.ownsRow B 5 1 (.slice (some ⟨x.gin, 0, none⟩) x.n x.cin) x.n (nums .u8 row)
  fo : FoAt B W x.p F nv x.bl x.br x.be K
  gb : B ≤ x.bb
def Fr2 (w w' : World) : Prop := ∀ (k : Nat) (cs : Array Value) (t : TypeId) (f : Nat × Nat), w.heap[k]? = some (Obj.cells cs t f) → t ≠ 115 → t ≠ 49 → t ≠ 4 → t ≠ 5 → w'.heap[k]? = w.heap[k]?
theorem Fr2.refl (w : World) : Fr2 w w := by
  intro _ _ _ _ _ _ _ _ _
  rfl
theorem Fr2.trans {w w1 w2 : World} (h : Fr2 w w1) (g : Fr2 w1 w2) : Fr2 w w2 := by
  intro k cs t f hk a b c d
  exact (g k cs t f ((h k cs t f hk a b c d).trans hk) a b c d).trans (h k cs t f hk a b c d)
theorem Fr2.of {w w' : World} (h : Fr w w') : Fr2 w w' := by
  intro k cs t f hk a b _ _
  exact h k cs t f hk a b
theorem Fr2.set {w : World} {p j : Nat} {v : Value} {cs : Array Value} {t : TypeId} {f : Nat × Nat} (h : w.heap[p]? = some (.cells cs t f)) (ht : t = 4 ∨ t = 5) : Fr2 w (w.setCell ⟨p, j, none⟩ v) := by
  intro q cs' t' f' hk _ _ a b
  exact Below.heap_setCell _ ⟨p, j, none⟩ _ _ (fun e => by
    rw [show q = p from e, h] at hk
    injection hk with hk
    injection hk with _ hk
    subst hk
    rcases ht with h0 | h0
    · exact a h0
    · exact b h0)
section
variable {B : Nat} {W W' : World} {x : Cx} {F : Fo} {bad : Bool} {row : List Int} {nv : Value} {K : List Value}
theorem CapAt.frame (h : CapAt B W x F bad row nv K) (hr : Fr W W') {F' : Fo} {nv' : Value} {K' : List Value} (hf : FoAt B W' x.p F' nv' x.bl x.br x.be K') : CapAt B W' x F' bad row nv' K' :=
  ⟨(hr _ _ _ _ h.xi (by decide) (by decide)).trans h.xi, (hr _ _ _ _ h.xf (by decide) (by decide)).trans h.xf, (hr _ _ _ _ h.xn (by decide) (by decide)).trans h.xn, (hr _ _ _ _ h.xs (by decide) (by decide)).trans h.xs, (hr _ _ _ _ h.xb (by decide) (by decide)).trans h.xb, (hr _ _ _ _ h.xm (by decide) (by decide)).trans h.xm, (hr _ _ _ _ h.xg (by decide) (by decide)).trans h.xg,
    own_move h.inr (fun k hk => by obtain ⟨cs, hc⟩ := own_typed h.inr k hk; exact hr k _ _ _ hc (by decide) (by decide)), hf, h.gb⟩
theorem CapAt.on (h : CapAt B W x F bad row nv K) (hb : Below W.heap.size W W') : CapAt B W' x F bad row nv K := h.frame (Fr.below hb) (h.fo.on hb)
theorem FoAt.set {p bl br be : Nat} (h : FoAt B W p F nv bl br be K) {q j : Nat} {v : Value} {cs : Array Value} {t : TypeId} {f : Nat × Nat} (hq : W.heap[q]? = some (.cells cs t f)) (h1 : t ≠ 115) (h2 : t ≠ 49) (h3 : t ≠ 3) : FoAt B (W.setCell ⟨q, j, none⟩ v) p F nv bl br be K := by
  have far : ∀ k, k ≠ q → (W.setCell ⟨q, j, none⟩ v).heap[k]? = W.heap[k]? := fun k hk => Below.heap_setCell _ ⟨q, j, none⟩ _ _ hk
  have ty : ∀ (k : Nat) (cs' : Array Value) (t' : TypeId) (f' : Nat × Nat), W.heap[k]? = some (.cells cs' t' f') → t ≠ t' → k ≠ q := by
    rintro k cs' t' f' hk hne rfl
    rw [hq] at hk
    injection hk with hk
    injection hk with _ hk
    exact hne hk
  have mp : ∀ {k : TypeId} {b s : Nat} {g : Lit → Option Int}, MapI W k b s g → b ≠ q := by
    rintro k b s g hm rfl
    obtain ⟨es, c, hb⟩ := hm.obj
    rw [hq] at hb
    cases hb
  exact h.move (far _ (ty _ _ _ _ h.box h1)) (fun k hk => by obtain ⟨cs', hc⟩ := own_typed h.row k hk; exact far k (ty _ _ _ _ hc h2)) (fun u hu k hk => by
    obtain ⟨i, hi, rfl⟩ := List.mem_iff_getElem.1 hu
    obtain ⟨cs', hc⟩ := own_typed (h.kid i _ (List.getElem?_eq_getElem hi)) k hk
    exact far k (ty _ _ _ _ hc h3)) (far _ (mp h.lvm)) (far _ (mp h.rsm)) (far _ (mp h.enm))
theorem CapAt.setBad (h : CapAt B W x F bad row nv K) (v : Bool) : CapAt B (W.setCell ⟨x.bb, 0, none⟩ (.bool v)) x F v row nv K := by
  have far : ∀ (k : Nat) (cs' : Array Value) (t' : TypeId) (f' : Nat × Nat), W.heap[k]? = some (.cells cs' t' f') → 4 ≠ t' → (W.setCell ⟨x.bb, 0, none⟩ (.bool v)).heap[k]? = W.heap[k]? := by
    intro k cs' t' f' hk hne
    exact Below.heap_setCell _ ⟨x.bb, 0, none⟩ _ _ (fun e => by
      rw [show k = x.bb from e, h.xb] at hk
      injection hk with hk
      injection hk with _ hk
      exact hne hk)
  exact ⟨(far _ _ _ _ h.xi (by decide)).trans h.xi, (far _ _ _ _ h.xf (by decide)).trans h.xf, (far _ _ _ _ h.xn (by decide)).trans h.xn, (far _ _ _ _ h.xs (by decide)).trans h.xs, blk_put h.xb 0 _ rfl, (far _ _ _ _ h.xm (by decide)).trans h.xm, (far _ _ _ _ h.xg (by decide)).trans h.xg,
    own_move h.inr (fun k hk => by obtain ⟨cs, hc⟩ := own_typed h.inr k hk; exact far k _ _ _ hc (by decide)), h.fo.set h.xb (by decide) (by decide) (by decide), h.gb⟩
theorem CapAt.setIn (h : CapAt B W x F bad row nv K) (l : Nat) (hl : l < x.n) (s : Int) : CapAt B (W.setCell ⟨x.gin, l, none⟩ (.int .u8 s)) x F bad (row.set l s) nv K ∧ Fr2 W (W.setCell ⟨x.gin, l, none⟩ (.int .u8 s)) := by
  obtain ⟨cs, hc⟩ := own_typed h.inr x.gin rfl
  have far : ∀ (k : Nat) (cs' : Array Value) (t' : TypeId) (f' : Nat × Nat), W.heap[k]? = some (.cells cs' t' f') → 5 ≠ t' → (W.setCell ⟨x.gin, l, none⟩ (.int .u8 s)).heap[k]? = W.heap[k]? := by
    intro k cs' t' f' hk hne
    exact Below.heap_setCell _ ⟨x.gin, l, none⟩ _ _ (fun e => by
      rw [show k = x.gin from e, hc] at hk
      injection hk with hk
      injection hk with _ hk
      exact hne hk)
  have ho := (own_store h.inr (l : Int) s).1
  exact ⟨⟨(far _ _ _ _ h.xi (by decide)).trans h.xi, (far _ _ _ _ h.xf (by decide)).trans h.xf, (far _ _ _ _ h.xn (by decide)).trans h.xn, (far _ _ _ _ h.xs (by decide)).trans h.xs, (far _ _ _ _ h.xb (by decide)).trans h.xb, (far _ _ _ _ h.xm (by decide)).trans h.xm, (far _ _ _ _ h.xg (by decide)).trans h.xg,
    ho, h.fo.set hc (by decide) (by decide) (by decide), h.gb⟩, Fr2.set hc (.inr rfl)⟩
end
theorem goesv_ {P : Program} {ops : Array Oper} {Q : Exit → Act → World → Prop} {oi : Oper} {N : Option Tmp} {a : Act} {w : World} {K : Act → World → Prop} {f : FuncId} {fn : Func} {xo xa : Operand} {ts : Array TypeId} {fi caps : Array Value} (hf : P.funcs[f]? = some fn) (hname : (fn.name == "runtime.NumGoroutine") = false) (hb : fn.body.isSome = true) (arg : Value)
    (hw : Region.wanted oi (yielded ops a.tmps) = true) (hN : oi.dst = N) (hop : oi.op = .call { callee := .value xo, args := #[xa], argTypes := ts }) (hx : a.eval xo = .func (.func f) fi caps) (hargs : a.eval xa = arg)
    (h : Calls P f (fi ++ #[arg] ++ caps) w fun e w' => ∃ v, e = .returned v ∧ K (a.put N v) w') : if Region.wanted oi (yielded ops a.tmps) = true then Oper.wp P oi a w K Q else K (a.put N undef) w := by
  refine call_ f (fi ++ #[arg] ++ caps) hw hN ?_ h
  have he := enters_ hf hname hb (fi ++ #[arg] ++ caps) w
  unfold execOp
  simp [hop, resolve, Deferred.ofValue, invoke, hx, hargs] at he ⊢
  simp [he]
structure FOk (x : Cx) (w0 : World) (f : List Int → Int) : Prop where
  fn : ∃ g, Tryd.prog.funcs[x.kf]? = some g ∧ (g.name == "runtime.NumGoroutine") = false ∧ g.body.isSome = true
  r : ∀ pre, 0 ≤ f pre ∧ f pre ≤ 255
  calls : ∀ (pre : List Int) (ad : Addr) (c : Nat) (w : World), pre.length = x.n → (∀ v ∈ pre, 0 ≤ v ∧ v < x.st) → ReadsInt w .u8 (some ad) x.n pre → x.n ≤ c → Below w0.heap.size w0 w →
    Calls Tryd.prog x.kf (x.fi ++ #[.slice (some ad) x.n c] ++ x.caps) w fun e w' => e = .returned (.int .u8 (f pre)) ∧ Below w.heap.size w w'
def GrowOk (x : Cx) (w0 : World) (f : List Int → Int) (d : Nat) : Prop := ∀ (pre row : List Int) (F : Fo) (bad : Bool) (nv : Value) (K : List Value) (w : World), pre.length + d = x.n → row.length = x.n → row.take pre.length = pre → (∀ v ∈ pre, 0 ≤ v ∧ v < x.st) → F.Ok → F.Room (cost x.st d) → CapAt w0.heap.size w x F bad row nv K → Below w0.heap.size w0 w →
  Calls Tryd.prog 71 (x.args pre.length) w fun e w' => e = .returned (.int .i64 (grow x.st f d pre (F, bad)).2) ∧ ∃ row' nv' K', row'.length = x.n ∧ row'.take pre.length = pre ∧ CapAt w0.heap.size w' x (grow x.st f d pre (F, bad)).1.1 (grow x.st f d pre (F, bad)).1.2 row' nv' K' ∧ Below w0.heap.size w0 w' ∧ Fr2 w w' ∧ KNew w K K' ∧ w.heap.size ≤ w'.heap.size
set_option maxHeartbeats 4000000 in
set_option maxRecDepth 100000 in
theorem grow_zero (x : Cx) (w0 : World) (f : List Int → Int) (hf : FOk x w0 f) (hn : x.n ≤ 16) : GrowOk x w0 f 0 := by
  intro pre row F bad nv K0 w hpre hrow htake hin hok hroom h hB
  have e : row = pre := by
    rw [List.take_of_length_le (by omega)] at htake
    exact htake
  subst e
  have H := Aside0.mk h
  have HB := Aside0.mk hB
  rw [show grow x.st f 0 row (F, bad) = leafed x.st (f row) (F, bad) from rfl]
  have hs := hf.r row
  have hfc := fun ad c w' hr hc hb => hf.calls row ad c w' hrow hin hr hc hb
  generalize f row = s at hs hfc ⊢
  have HF := Aside0.mk (And.intro hf.fn hfc)
  have HN := Aside0.mk hn
  have HP := Aside0.mk (And.intro hrow hin)
  have HR := Aside0.mk hroom
  have HOK := Aside0.mk hok
  have hl : (row.length : Int) = (x.n : Int) := by omega
  have i_ := (blk_cell h.xi 0).trans (show _ = some (Value.int .i64 (x.n : Int)) from rfl)
  unfold Cx.args
  rw [hl]
  clear hpre htake hin hok hroom h hB hf hn hrow hfc
  go_enter Tryd.func71, Tryd.ntmps71
  go_upto_region 2 with fail
  clear i_
  refine start_ (n := 5) (S := fun w' => w'.cell? ⟨x.bf, 0, none⟩ = some (.func (.func x.kf) x.fi x.caps) ∧ w'.cell? ⟨x.bn, 0, none⟩ = some (.slice (some ⟨x.gin, 0, none⟩) x.n x.cin)) (ds := []) #[false, false, false, false, false] (by kernel_rfl) rfl rfl ⟨(blk_cell H.out.xf 0).trans rfl, (blk_cell H.out.xn 0).trans rfl⟩ (fun hHeld => ?_)
  have H2 := Aside0.mk (H.out.on (below_drew (Below.refl _ _)))
  have HB2 := Aside0.mk (below_drew1 HB.out)
  have R2 := Aside0.mk (show Fr2 w w.drew from Fr2.refl w)
  have HZ := Aside0.mk (show w.heap.size ≤ w.drew.heap.size from Nat.le_refl _)
  generalize w.drew = wx at H2 HB2 R2 HZ hHeld ⊢
  clear H HB
  refine take_ (i := 0) (N := (some 16)) (v := ?_) (a' := ?_) #[true, false, false, false, false] rfl rfl (by kernel_rfl) (fun _ _ _ h => h) (Or.inl ⟨by rfl, ?_⟩) hHeld ?_ ?_
  rotate_left
  · rintro w' ⟨s0, s1⟩
    go_simp
    with_reducible rfl
  rotate_left
  · simp only [Act.put, List.setIfInBounds_toArray, List.set_cons_zero, List.set_cons_succ, i64_w, i32_w]
    rfl
  refine take_ (i := 1) (N := (some 17)) (v := ?_) (a' := ?_) #[true, true, false, false, false] rfl rfl (by kernel_rfl) (fun _ _ _ h => h) (Or.inl ⟨by rfl, ?_⟩) hHeld ?_ ?_
  rotate_left
  · rintro w' ⟨s0, s1⟩
    go_simp
    with_reducible rfl
  rotate_left
  · simp only [Act.put, List.setIfInBounds_toArray, List.set_cons_zero, List.set_cons_succ, i64_w, i32_w]
    rfl
  refine one_ (i := 2) (N := (some 18)) #[true, true, true, false, false] rfl rfl (by kernel_rfl) (by decide) (fun K hK => ?_)
  refine goes_ Tryd.func72 (by kernel_rfl) rfl #[.slice (some ⟨x.gin, 0, none⟩) x.n x.cin] (by rfl) rfl rfl (by (try simp only [List.map_toArray, List.map_cons, List.map_nil]); first | done | rfl) ?_
  with_reducible refine (Clone.bytes ⟨x.gin, 0, none⟩ x.n x.cin row wx (own_reads' H2.out.inr) (by have := HN.out; omega)).mono ?_
  rintro en_ w3 ⟨v, rfl, ho3, hb3, hn3⟩
  obtain ⟨A3, c3, rfl⟩ := own_slice ho3
  refine ⟨_, rfl, ?_⟩
  have H3 := Aside0.mk (H2.out.on hb3)
  have HB3 := Aside0.mk (HB2.out.trans (hb3.mono HB2.out.size))
  have HZ := Aside0.mk (Nat.le_trans HZ.out hb3.size)
  have R3 := Aside0.mk (R2.out.trans (Fr2.of (Fr.below hb3)))
  obtain ⟨A3, rfl, hc3⟩ : ∃ q, A3 = some q ∧ x.n ≤ c3 := by
    rcases ho3.2 with ⟨h, _⟩ | ⟨q, cp, cur, h, _, _, h2, _⟩
    · exact absurd h hn3
    · cases h
      exact ⟨_, rfl, h2⟩
  have HO3 := Aside0.mk (own_reads' ho3)
  have HC3 := Aside0.mk hc3
  clear ho3 hb3 hn3 hc3
  refine hK.out _ _ ⟨(blk_cell H3.out.xf 0).trans rfl, (blk_cell H3.out.xn 0).trans rfl⟩ (fun hHeld => ?_)
  clear hK K
  refine one_ (i := 3) (N := (some 19)) #[true, true, true, true, false] rfl rfl (by kernel_rfl) (by decide) (fun K hK => ?_)
  obtain ⟨g, g1, g2, g3⟩ := HF.out.1
  refine goesv_ g1 g2 g3 (.slice (some A3) x.n c3) (by rfl) rfl rfl rfl rfl ?_
  with_reducible refine (HF.out.2 A3 c3 w3 HO3.out HC3.out HB3.out).mono ?_
  rintro en_ w4 ⟨rfl, hb4⟩
  refine ⟨_, rfl, ?_⟩
  have H4 := Aside0.mk (H3.out.on hb4)
  have HB4 := Aside0.mk (HB3.out.trans (hb4.mono HB3.out.size))
  have HZ := Aside0.mk (Nat.le_trans HZ.out hb4.size)
  have R4 := Aside0.mk (R3.out.trans (Fr2.of (Fr.below hb4)))
  clear hb4 g1 g2 g3
  refine hK.out _ _ ⟨(blk_cell H4.out.xf 0).trans rfl, (blk_cell H4.out.xn 0).trans rfl⟩ (fun hHeld => ?_)
  clear hK K H2 H3 HB2 HB3 R2 R3
  refine pure_ (i := 4) (N := (some 10)) (v := ?_) (a' := ?_) #[true, true, true, true, true] rfl rfl (by kernel_rfl) (fun _ _ _ h => h) (Or.inl ⟨by rfl, ?_⟩) ?_ ?_
  rotate_left
  · intro w'
    go_simp
    with_reducible rfl
  rotate_left
  · simp only [Act.put, List.setIfInBounds_toArray, List.set_cons_zero, List.set_cons_succ, i64_w, i32_w]
    rfl
  refine done_ (by kernel_rfl) ?_
  have s_ := (blk_cell H4.out.xs 0).trans (show _ = some (Value.int .i64 (x.st : Int)) from rfl)
  have m_ := (blk_cell H4.out.xm 0).trans (show _ = some (Value.pointer (some ⟨x.p, 0, none⟩)) from rfl)
  have f_ := blk_frozen H4.out.xb 0
  have b_ := (blk_cell H4.out.xb 0).trans (show _ = some (Value.bool bad) from rfl)
  have hsw : wrap64 s = s := by unfold wrap64; omega
  have hs8 : (Lit.int .u8 s).wf = true := by
    simp [Lit.wf, IntKind.min, IntKind.max, IntKind.bits, IntKind.signed]
    omega
  have HL := Aside0.mk (Nat.le_of_lt (Nat.lt_of_lt_of_le (by have := HN.out; omega : row.length < 17) (Nat.le_refl 17)))
  by_cases q : s ≥ (x.st : Int)
  · go_wp2_with fail
    go_ret
    go_light
    unfold leafed
    rw [if_pos q]
    exact ⟨rfl, row, nv, K0, HP.out.1, by rw [List.take_length], H4.out.setBad true, HB4.out.setCell H4.out.gb _, R4.out.trans (Fr2.set H4.out.xb (.inl rfl)), KNew.refl _ _, by simpa using HZ.out⟩
  · go_wp2_with (first | (go_at_call 63; (with_reducible refine (leaf_calls w0.heap.size x.p F nv x.bl x.br x.be K0 s w4 H4.out.fo HB4.out.size hs8 (by have := HR.out.a; omega) (by have := HR.out.b; omega)).mono ?_); rintro e_ w5 ⟨rfl, nv5, K5, hf5, hb5, hr5, hk5⟩; have HSZ := Aside0.mk (And.intro (KNew.trans (KNew.refl w K0) hk5 HZ.out) (Nat.le_trans HZ.out hb5.size)); have H5 := Aside0.mk (H4.out.frame hr5 hf5); have HB5 := Aside0.mk (HB4.out.trans hb5); have R5 := Aside0.mk (R4.out.trans (Fr2.of hr5)); clear s_ m_ f_ b_ hf5 hb5 hr5 hk5))
    go_ret
    go_light
    unfold leafed
    rw [if_neg (by omega)]
    exact ⟨rfl, row, nv5, K5, HP.out.1, by rw [List.take_length], H5.out, HB5.out, R5.out, HSZ.out.1, HSZ.out.2⟩
theorem KNew.off {w : World} {K K' : List Value} {g : Nat} (h : KNew w K K') (hg : g < w.heap.size) (ho : ∀ v ∈ K, v.ownBlock ≠ some g) : ∀ v ∈ K', v.ownBlock ≠ some g := by
  intro v hv e
  rcases h v hv with h1 | h1
  · exact ho v h1 e
  · have := h1 g e
    omega
theorem CapAt.setKids {B : Nat} {W : World} {x : Cx} {F : Fo} {bad : Bool} {row : List Int} {nv : Value} {K : List Value} (h : CapAt B W x F bad row nv K) {g j : Nat} {cs : Array Value} (hg : W.heap[g]? = some (.cells cs 3 (0, 0))) (h1 : x.bi ≠ g) (h2 : x.bs ≠ g) (h3 : ∀ v ∈ K, v.ownBlock ≠ some g) (v : Value) : CapAt B (W.setCell ⟨g, j, none⟩ v) x F bad row nv K := by
  have far : ∀ k, k ≠ g → (W.setCell ⟨g, j, none⟩ v).heap[k]? = W.heap[k]? := fun k hk => Below.heap_setCell _ ⟨g, j, none⟩ _ _ hk
  have ty : ∀ (k : Nat) (cs' : Array Value) (t' : TypeId) (f' : Nat × Nat), W.heap[k]? = some (.cells cs' t' f') → 3 ≠ t' → k ≠ g := by
    rintro k cs' t' f' hk hne rfl
    rw [hg] at hk
    injection hk with hk
    injection hk with _ hk
    exact hne hk
  have mp : ∀ {k : TypeId} {b s : Nat} {q : Lit → Option Int}, MapI W k b s q → b ≠ g := by
    rintro k b s q hm rfl
    obtain ⟨es, c, hb⟩ := hm.obj
    rw [hg] at hb
    cases hb
  exact ⟨(far _ h1).trans h.xi, (far _ (ty _ _ _ _ h.xf (by decide))).trans h.xf, (far _ (ty _ _ _ _ h.xn (by decide))).trans h.xn, (far _ h2).trans h.xs, (far _ (ty _ _ _ _ h.xb (by decide))).trans h.xb, (far _ (ty _ _ _ _ h.xm (by decide))).trans h.xm, (far _ (ty _ _ _ _ h.xg (by decide))).trans h.xg,
    own_move h.inr (fun k hk => by obtain ⟨cs', hc⟩ := own_typed h.inr k hk; exact far k (ty _ _ _ _ hc (by decide))),
    h.fo.move (far _ (ty _ _ _ _ h.fo.box (by decide))) (fun k hk => by obtain ⟨cs', hc⟩ := own_typed h.fo.row k hk; exact far k (ty _ _ _ _ hc (by decide))) (fun u hu k hk => far k (fun e => h3 u hu (by rw [hk, e]))) (far _ (mp h.fo.lvm)) (far _ (mp h.fo.rsm)) (far _ (mp h.fo.enm)), h.gb⟩
theorem Fr2.setNew {w W : World} {g : Nat} (h : Fr2 w W) (hg : w.heap.size ≤ g) (j : Nat) (v : Value) : Fr2 w (W.setCell ⟨g, j, none⟩ v) := by
  intro k cs t f hk a b c d
  exact (Below.heap_setCell _ ⟨g, j, none⟩ _ _ (fun e => by have := blk_lt hk; have e2 : k = g := e; omega)).trans (h k cs t f hk a b c d)
def kidRow (ks : List Int) (m : Nat) : List Int := ks ++ List.replicate (m - ks.length) 0
theorem kidRow_set (ks : List Int) (m : Nat) (h : ks.length < m) (v : Int) : (kidRow ks m).set ks.length v = kidRow (ks ++ [v]) m := by
  unfold kidRow
  rw [List.set_append_right _ _ (Nat.le_refl _), Nat.sub_self, List.length_append, List.length_singleton]
  obtain ⟨q, hq⟩ : ∃ q, m - ks.length = q + 1 := ⟨m - ks.length - 1, by omega⟩
  rw [hq, show m - (ks.length + 1) = q by omega, List.replicate_succ, List.set_cons_zero, List.append_assoc]
  rfl
theorem take_set (row pre : List Int) (s : Int) (hp : row.take pre.length = pre) (hl : pre.length < row.length) : (row.set pre.length s).take (pre ++ [s]).length = pre ++ [s] := by
  rw [List.length_append, List.length_singleton]
  apply List.ext_getElem?
  intro i
  rcases Nat.lt_trichotomy i pre.length with h | h | h
  · rw [List.getElem?_take_of_lt (by omega), List.getElem?_set_ne (by omega), List.getElem?_append_left h, ← List.getElem?_take_of_lt h, hp]
  · subst h
    rw [List.getElem?_take_of_lt (by omega), List.getElem?_set_self hl, List.getElem?_append_right (Nat.le_refl _), Nat.sub_self]
    rfl
  · rw [List.getElem?_eq_none (by simp; omega), List.getElem?_eq_none (by simp; omega)]
theorem take_less (row pre : List Int) (s : Int) (hp : row.take (pre ++ [s]).length = pre ++ [s]) : row.take pre.length = pre := by
  have h := congrArg (List.take pre.length) hp
  rw [List.take_take, List.take_left] at h
  rwa [Nat.min_eq_left (by simp)] at h
set_option maxHeartbeats 4000000 in
set_option maxRecDepth 100000 in
theorem grow_succ (x : Cx) (w0 : World) (f : List Int → Int) (hf : FOk x w0 f) (hn : x.n ≤ 16) (hst : 1 ≤ x.st ∧ x.st ≤ 256) (d : Nat) (ih : GrowOk x w0 f d) : GrowOk x w0 f (d + 1) := by
  intro pre row F bad nv K0 w hpre hrow htake hin hok hroom h hB
  have hgr : grow x.st f (d + 1) pre (F, bad) = ((((kidsOf (grow x.st f d) pre (F, bad) x.st).1.1.branch (kidsOf (grow x.st f d) pre (F, bad) x.st).2).1, (kidsOf (grow x.st f d) pre (F, bad) x.st).1.2), ((kidsOf (grow x.st f d) pre (F, bad) x.st).1.1.branch (kidsOf (grow x.st f d) pre (F, bad) x.st).2).2) := rfl
  rw [hgr]
  have hfit := fun i k => kids_fit (grow_fit x.st f d) pre (F, bad) hok i k
  have hlen := kidsOf_len (grow x.st f d) pre (F, bad)
  have hnext : ∀ i, kidsOf (grow x.st f d) pre (F, bad) (i + 1) = ((grow x.st f d (pre ++ [(i : Int)]) (kidsOf (grow x.st f d) pre (F, bad) i).1).1, (kidsOf (grow x.st f d) pre (F, bad) i).2 ++ [(grow x.st f d (pre ++ [(i : Int)]) (kidsOf (grow x.st f d) pre (F, bad) i).1).2]) := fun _ => rfl
  have hzero : kidsOf (grow x.st f d) pre (F, bad) 0 = ((F, bad), []) := rfl
  have HZ := Aside0.mk hzero
  have HNX := Aside0.mk hnext
  have HFIT := Aside0.mk hfit
  have HLEN := Aside0.mk hlen
  generalize kidsOf (grow x.st f d) pre (F, bad) = KF at HZ HNX HFIT HLEN ⊢
  clear hgr hfit hlen hnext hzero
  have IH := Aside0.mk ih
  have H := Aside0.mk h
  have HB := Aside0.mk hB
  have HN := Aside0.mk (And.intro hn hst)
  have HW0 := Aside0.mk hB.size
  have HP := Aside0.mk (And.intro hpre hin)
  have HW := Aside0.mk (And.intro hrow htake)
  have HR := Aside0.mk hroom
  have HLT := Aside0.mk (show (x.bi < w.heap.size ∧ x.bs < w.heap.size) ∧ ∀ v ∈ K0, v.ownBlock ≠ some w.heap.size from ⟨⟨blk_lt h.xi, blk_lt h.xs⟩, fun v hv e => by
    obtain ⟨j, hj, rfl⟩ := List.mem_iff_getElem.1 hv
    exact absurd (own_lt (h.fo.kid j _ (List.getElem?_eq_getElem hj)) _ e) (by omega)⟩)
  have hl : ¬ (pre.length : Int) = (x.n : Int) := by omega
  have i_ := (blk_cell h.xi 0).trans (show _ = some (Value.int .i64 (x.n : Int)) from rfl)
  have s_ := (blk_cell h.xs 0).trans (show _ = some (Value.int .i64 (x.st : Int)) from rfl)
  have hmk := print_make 47 3 .i64 8 Tryd.underlying47 (by kernel_rfl) (by decide) x.st (by omega)
  have hmade := own_made w w.heap.size 3 .i64 x.st (Nat.le_refl _) (by omega)
  have HMADE := Aside0.mk hmade
  have HON := Aside0.mk (h.on ((Below.refl _ _).alloc (Nat.le_refl _) (.cells (madeCells #[.int .i64 0] x.st) 3)))
  have HBN := Aside0.mk (hB.alloc hB.size (.cells (madeCells #[.int .i64 0] x.st) 3))
  have HRN := Aside0.mk (Fr2.of (Fr.below ((Below.refl w.heap.size w).alloc (Nat.le_refl _) (.cells (madeCells #[.int .i64 0] x.st) 3))))
  have s2_ := (blk_cell HON.out.xs 0).trans (show _ = some (Value.int .i64 (x.st : Int)) from rfl)
  unfold Cx.args
  clear hpre htake hin hok hroom h hB hf hn hrow hst ih hmade
  go_enter Tryd.func71, Tryd.ntmps71
  go_wp2_with fail
  clear i_ s_ s2_ hmk H HB
  go_loopg [30] x.st (fun g_ s30 wr => ∃ (i : Int) (F1 : Fo) (b1 : Bool) (ks row' : List Int) (nv' : Value) (K' : List Value), s30 = .int .i64 i ∧ Aside0 (KF i.toNat = ((F1, b1), ks)) ∧ Aside0 (0 ≤ i ∧ i ≤ x.st ∧ (g_ : Int) = x.st - i) ∧ Aside0 (row'.length = x.n ∧ row'.take pre.length = pre) ∧ Aside0 (CapAt w0.heap.size wr x F1 b1 row' nv' K') ∧ Aside0 (Below w0.heap.size w0 wr) ∧ Aside0 (Fr2 w wr) ∧ Aside0 (wr.ownsRow w.heap.size 3 1 (.slice (some ⟨w.heap.size, 0, none⟩) x.st x.st) x.st (nums .i64 (kidRow ks x.st))) ∧ Aside0 (KNew w K0 K') ∧ Aside0 (KNew (w.alloc (.cells (madeCells #[.int .i64 0] x.st) 3)) K0 K' ∧ w.heap.size < wr.heap.size))
  case atStart => exact ⟨0, F, bad, [], row, nv, K0, rfl, HZ, ⟨by omega, by omega, by omega⟩, HW, HON, HBN, HRN, HMADE, ⟨KNew.refl _ _⟩, ⟨KNew.refl _ _, by simp⟩⟩
  case round =>
    obtain ⟨i, F1, b1, ks, row', nv1, K1, rfl, HE, HX, HW1, H1, HB1, HR1, HO1, HK1, HQ1⟩ := hrel
    clear HON HBN HRN HMADE HW
    have m_ := (blk_cell H1.out.xm 0).trans (show _ = some (Value.pointer (some ⟨x.p, 0, none⟩)) from rfl)
    have hks : ks.length = i.toNat := by
      have := HLEN.out i.toNat
      rw [HE.out] at this
      exact this
    have HKS := Aside0.mk hks
    clear hks
    by_cases q : i < (x.st : Int)
    · have n_ := (blk_cell H1.out.xn 0).trans (show _ = some (Value.slice (some ⟨x.gin, 0, none⟩) x.n x.cin) from rfl)
      have hlt : (pre.length : Int) < (x.n : Int) := by have := HP.out.1; omega
      have hl0 : (0 : Int) ≤ (pre.length : Int) := by omega
      obtain ⟨c1_, c2_⟩ := own_at H1.out.inr (pre.length : Int) hl0 hlt
      rw [Int.toNat_natCast] at c1_ c2_
      have g2_ := (blk_cell (H1.out.setIn pre.length (by have := HP.out.1; omega) i).1.xg 0).trans (show _ = some (Value.func (.func 71) #[] #[.pointer (some ⟨x.bi, 0, none⟩), .pointer (some ⟨x.bf, 0, none⟩), .pointer (some ⟨x.bn, 0, none⟩), .pointer (some ⟨x.bs, 0, none⟩), .pointer (some ⟨x.bb, 0, none⟩), .pointer (some ⟨x.bm, 0, none⟩), .pointer (some ⟨x.bg, 0, none⟩)]) from rfl)
      have hx0 := HX.out.1
      have w1_ : wrap64 (i + 1) = i + 1 := by have := HN.out; unfold wrap64; omega
      have w2_ : wrap64 ((pre.length : Int) + 1) = (pre.length : Int) + 1 := by have := HN.out; unfold wrap64; omega
      have w3_ : IntKind.u8.wrap i = i := by have := HN.out; have := HX.out; unfold IntKind.wrap; simp [IntKind.signed, IntKind.bits]; omega
      have hcall := IH.out (pre ++ [(i.toNat : Int)]) (row'.set pre.length i) F1 b1 nv1 K1 (wr.setCell ⟨x.gin, pre.length, none⟩ (.int .u8 i)) (by have := HP.out.1; simp; omega) (by simp [HW1.out.1]) (by rw [show ((i.toNat : Nat) : Int) = i by have := HX.out; omega]; exact take_set row' pre i HW1.out.2 (by rw [HW1.out.1]; have := HP.out.1; omega)) (by
        intro v hv
        rcases List.mem_append.1 hv with hv | hv
        · exact HP.out.2 v hv
        · rw [List.mem_singleton.1 hv]
          have := HX.out
          omega) (by
        have h := (HFIT.out i.toNat 0 (HR.out.less (by simp only [cost]; have : i.toNat * cost x.st d ≤ x.st * cost x.st d := Nat.mul_le_mul_right _ (by omega); omega))).1
        rw [HE.out] at h
        exact h) (by
        have h := (HFIT.out i.toNat (cost x.st d) (HR.out.less (by simp only [cost]; have : (i.toNat + 1) * cost x.st d ≤ x.st * cost x.st d := Nat.mul_le_mul_right _ (show i.toNat + 1 ≤ x.st by omega); rw [Nat.add_mul] at this; omega))).2.1
        rw [HE.out] at h
        exact h) (H1.out.setIn pre.length (by have := HP.out.1; omega) i).1 (HB1.out.setCell (p := ⟨x.gin, pre.length, none⟩) (own_ge H1.out.inr _ rfl) _)
      rw [show ((pre ++ [(i.toNat : Int)]).length : Int) = (pre.length : Int) + 1 by simp] at hcall
      unfold Cx.args at hcall
      have hnx := HNX.out i.toNat
      rw [HE.out] at hnx
      dsimp only at hnx
      generalize grow x.st f d (pre ++ [(i.toNat : Int)]) (F1, b1) = R at hcall hnx
      obtain ⟨⟨F2, b2⟩, id⟩ := R
      dsimp only at hcall hnx
      have HC := Aside0.mk hcall
      have HNX1 := Aside0.mk hnx
      have HS1 := Aside0.mk (H1.out.setIn pre.length (by have := HP.out.1; omega) i).2
      have HZ1 := Aside0.mk (show wr.heap.size ≤ (wr.setCell ⟨x.gin, pre.length, none⟩ (.int .u8 i)).heap.size from Nat.le_of_eq (by simp))
      clear hcall hnx m_
      go_wp2_with (first | (go_at_call 71; (with_reducible refine HC.out.mono ?_); rintro e_ w5 ⟨rfl, row5, nv5, K5, hr5, ht5, h5, hb5, hf5, hk5, hz5⟩; clear HC; have H5 := Aside0.mk h5; have HB5 := Aside0.mk hb5; have HT5 := Aside0.mk (And.intro hr5 (take_less _ _ _ ht5)); have HF5 := Aside0.mk (HR1.out.trans (HS1.out.trans hf5)); have HK5 := Aside0.mk (HK1.out.trans hk5 (Nat.le_trans (Nat.le_of_lt HQ1.out.2) HZ1.out)); have HQ5 := Aside0.mk (HQ1.out.1.trans hk5 (by have := HQ1.out.2; have := HZ1.out; simp at this ⊢; omega)); have HO5 := Aside0.mk (own_move (w1 := w5) HO1.out (fun k hk => by obtain ⟨cs, hc⟩ := own_typed HO1.out k hk; exact (HS1.out.trans hf5) k _ _ _ hc (by decide) (by decide) (by decide) (by decide))); have HZ5 := Aside0.mk (Nat.lt_of_lt_of_le HQ1.out.2 (Nat.le_trans HZ1.out hz5)); clear hr5 ht5 h5 hb5 hf5 hk5 hz5 g2_ n_ c1_ c2_; obtain ⟨c1_, c2_⟩ := own_at HO5.out i hx0 q))
      go_roundg (x.st - (i + 1).toNat)
      case measure => go_light; have := HX.out; omega
      case rel =>
        go_light
        obtain ⟨cs, hc⟩ := own_typed HO5.out w.heap.size rfl
        have e : (i + 1).toNat = i.toNat + 1 := by omega
        have hs := (own_store HO5.out i id).1
        rw [show i.toNat = ks.length from HKS.out.symm, kidRow_set ks x.st (by rw [HKS.out]; omega)] at hs
        exact ⟨i + 1, F2, b2, ks ++ [id], row5, nv5, K5, by simp [w1_], ⟨by rw [e]; exact HNX1.out⟩, ⟨by omega, by omega, by have := HX.out; omega⟩, HT5, ⟨H5.out.setKids hc (Nat.ne_of_lt HLT.out.1.1) (Nat.ne_of_lt HLT.out.1.2) (HQ5.out.off (by simp) HLT.out.2) _⟩, ⟨HB5.out.setCell (p := ⟨w.heap.size, i.toNat, none⟩) HW0.out _⟩, ⟨HF5.out.setNew (Nat.le_refl _) _ _⟩, ⟨by rw [show i.toNat = ks.length from HKS.out.symm]; exact hs⟩, HK5, ⟨HQ5.out, by simpa using HZ5.out⟩⟩
    · have hi : i.toNat = x.st := by have := HX.out; omega
      have hE := HE.out
      rw [hi] at hE
      have hksl : ks.length = x.st := by rw [HKS.out, hi]
      have hkr : kidRow ks x.st = ks := by
        unfold kidRow
        rw [hksl, Nat.sub_self]
        exact List.append_nil _
      have ho := HO1.out
      rw [hkr] at ho
      have hft := HFIT.out x.st (x.st + 1) (HR.out.less (by simp only [cost]; omega))
      rw [hE] at hft
      dsimp only at hft
      obtain ⟨t1, t2, t3, t4⟩ := hft
      have hbr := branch_calls w0.heap.size x.p F1 nv1 x.bl x.br x.be K1 w.heap.size x.st ks wr H1.out.fo HB1.out.size t1.fine (by rw [hksl]; exact own_weaken ho HW0.out) t3 (by rw [hksl]; have := HN.out; omega) (by have := t2.c; omega) (by have := t2.a; omega) (by have := t2.d; omega)
      rw [hksl] at hbr
      have HBR := Aside0.mk hbr
      have HE2 := Aside0.mk hE
      clear hbr hE hi hksl hkr ho t1 t2 t3 t4
      go_wp2_with (first | (go_at_call 64; (with_reducible refine HBR.out.mono ?_); rintro e_ w6 ⟨rfl, nv6, K6, hf6, hb6, hr6, hk6⟩; have H6 := Aside0.mk (H1.out.frame hr6 hf6); have HB6 := Aside0.mk (HB1.out.trans hb6); have HF6 := Aside0.mk (HR1.out.trans (Fr2.of hr6)); have HK6 := Aside0.mk (HK1.out.trans hk6 (Nat.le_of_lt HQ1.out.2)); have HZ6 := Aside0.mk (Nat.le_trans (Nat.le_of_lt HQ1.out.2) hb6.size); clear m_ hf6 hb6 hr6 hk6))
      go_ret
      go_light
      rw [HE2.out]
      exact ⟨rfl, row', nv6, K6, HW1.out.1, HW1.out.2, H6.out, HB6.out, HF6.out, HK6.out, HZ6.out⟩
theorem grow_calls (x : Cx) (w0 : World) (f : List Int → Int) (hf : FOk x w0 f) (hn : x.n ≤ 16) (hst : 1 ≤ x.st ∧ x.st ≤ 256) : ∀ d, GrowOk x w0 f d
  | 0 => grow_zero x w0 f hf hn
  | d + 1 => grow_succ x w0 f hf hn hst d (grow_calls x w0 f hf hn hst d)
end Go.Proofs.YtbnonnogkgbpiaaDoor.Forest
end
section
namespace Go.Proofs.YtbnonnogkgbpiaaDoor.Forest
open Go Go.RowKit Go.Maps Go.Proofs.YtbnonnogkgbpiaaDoor.MapI Go.Proofs.YtbnonnogkgbpiaaDoor.TreeKeys Go.Proofs.YtbnonnogkgbpiaaDoorW.PrintWords Go.Proofs.YtbnonnogkgbpiaaDoorW.PrintLast Go.Proofs.YtbnonnogkgbpiaaDoorW.PrintMore Go.Proofs.YtbnonnogkgbpiaaDoor.PT
set_option linter.unusedVariables false
set_option linter.unusedSimpArgs false
theorem heap_kept {W : World} {b : Nat} {o : Obj} (h : W.heap[b]? = some o) (o' : Obj) : (W.alloc o').heap[b]? = some o :=
  (((Below.refl W.heap.size W).alloc (Nat.le_refl _) o').block b (blk_lt h)).trans h
theorem four (w : World) (a b c d : Obj) : ((((w.alloc a).alloc b).alloc c).alloc d).heap[w.heap.size]? = some a ∧ ((((w.alloc a).alloc b).alloc c).alloc d).heap[w.heap.size + 1]? = some b ∧ ((((w.alloc a).alloc b).alloc c).alloc d).heap[w.heap.size + 1 + 1]? = some c ∧ ((((w.alloc a).alloc b).alloc c).alloc d).heap[w.heap.size + 1 + 1 + 1]? = some d ∧ Below w.heap.size w ((((w.alloc a).alloc b).alloc c).alloc d) ∧ ((((w.alloc a).alloc b).alloc c).alloc d).heap.size = w.heap.size + 1 + 1 + 1 + 1 := by
  have s1 : (w.alloc a).heap.size = w.heap.size + 1 := by simp
  have s2 : ((w.alloc a).alloc b).heap.size = w.heap.size + 1 + 1 := by simp
  have s3 : (((w.alloc a).alloc b).alloc c).heap.size = w.heap.size + 1 + 1 + 1 := by simp
  have h1 := heap_alloc_new w a
  have h2 := heap_alloc_new (w.alloc a) b
  have h3 := heap_alloc_new ((w.alloc a).alloc b) c
  have h4 := heap_alloc_new (((w.alloc a).alloc b).alloc c) d
  rw [s1] at h2
  rw [s2] at h3
  rw [s3] at h4
  have b1 := (Below.refl w.heap.size w).alloc (Nat.le_refl _) a
  have b2 := b1.alloc b1.size b
  have b3 := b2.alloc b2.size c
  exact ⟨heap_kept (heap_kept (heap_kept h1 b) c) d, heap_kept (heap_kept h2 c) d, heap_kept h3 d, h4, b3.alloc b3.size d, by simp⟩
structure Boxes4 (W : World) (g : Nat) (a b c d : Obj) : Prop where
  a : W.heap[g]? = some a
  b : W.heap[g + 1]? = some b
  c : W.heap[g + 1 + 1]? = some c
  d : W.heap[g + 1 + 1 + 1]? = some d
theorem Boxes4.on {W W' : World} {g : Nat} {a b c d : Obj} (h : Boxes4 W g a b c d) (hb : Below W.heap.size W W') : Boxes4 W' g a b c d :=
  ⟨(hb.block _ (blk_lt h.a)).trans h.a, (hb.block _ (blk_lt h.b)).trans h.b, (hb.block _ (blk_lt h.c)).trans h.c, (hb.block _ (blk_lt h.d)).trans h.d⟩
def noTree : Value := .agg #[.int .i64 0, .int .i64 0, .slice none 0 0, .int .i64 0]
def IsFn (fv : Value) : Prop := fv = .nilFunc ∨ ∃ kf fi caps, fv = .func (.func kf) fi caps
set_option maxHeartbeats 4000000 in
set_option maxRecDepth 100000 in
theorem of_arg (st n : Int) (fv : Value) (hv : IsFn fv) (h : st < 1 ∨ st > 256 ∨ n < 0 ∨ n > 16) (w : World) :
    Calls Tryd.prog 34 #[.int .i64 st, .int .i64 n, fv] w fun e w' => e = .returned (.tuple #[noTree, .int .i64 2]) ∧ Below w.heap.size w w' := by
  unfold noTree
  rcases hv with rfl | ⟨kf, fi, caps, rfl⟩
  all_goals
    go_enter Tryd.func34, Tryd.ntmps34
    obtain ⟨_, _, _, h4, hb, _⟩ := four w (.cells #[.int .i64 st] 3) (.cells #[.int .i64 n] 3) (.cells #[_] 45) (.cells #[.int .i64 0, .int .i64 0, .slice none 0 0, .int .i64 0] 24)
    have HH := Aside0.mk h4
    have HB := Aside0.mk hb
    clear h4 hb
    by_cases q1 : st < 1
    · go_wp2
      exact bodyPost_ret (results_ct rfl _ _ _ 24 _ (0, 0) _ rfl HH.out Tryd.underlying24 rfl (by kernel_rfl)) rfl ⟨rfl, HB.out⟩
    by_cases q2 : st > 256
    · go_wp2
      exact bodyPost_ret (results_ct rfl _ _ _ 24 _ (0, 0) _ rfl HH.out Tryd.underlying24 rfl (by kernel_rfl)) rfl ⟨rfl, HB.out⟩
    by_cases q3 : n < 0
    · go_wp2
      exact bodyPost_ret (results_ct rfl _ _ _ 24 _ (0, 0) _ rfl HH.out Tryd.underlying24 rfl (by kernel_rfl)) rfl ⟨rfl, HB.out⟩
    have q4 : n > 16 := by omega
    go_wp2
    exact bodyPost_ret (results_ct rfl _ _ _ 24 _ (0, 0) _ rfl HH.out Tryd.underlying24 rfl (by kernel_rfl)) rfl ⟨rfl, HB.out⟩
set_option maxHeartbeats 4000000 in
set_option maxRecDepth 100000 in
theorem of_budget (st n : Int) (k : Nat) (kf : Nat) (fi caps : Array Value) (h1 : ¬ st < 1) (h2 : ¬ st > 256) (h3 : ¬ n < 0) (h4 : ¬ n > 16) (hr : tree_rowsOf.f k st n = some (0, false)) (w : World) :
    Calls Tryd.prog 34 #[.int .i64 st, .int .i64 n, .func (.func kf) fi caps] w fun e w' => e = .returned (.tuple #[noTree, .int .i64 4]) ∧ Below w.heap.size w w' := by
  have hfe : ∀ W : World, Sem.run Tryd.prog (binOp BinOp.eql 45 (.func (.func kf) fi caps) .nilFunc) W = .ok (.bool false) W := fun _ => rfl
  unfold noTree
  go_enter Tryd.func34, Tryd.ntmps34
  obtain ⟨_, _, _, h4', hb, _⟩ := four w (.cells #[.int .i64 st] 3) (.cells #[.int .i64 n] 3) (.cells #[.func (.func kf) fi caps] 45) (.cells #[.int .i64 0, .int .i64 0, .slice none 0 0, .int .i64 0] 24)
  have HH := Aside0.mk h4'
  have HB := Aside0.mk hb
  have HC := Aside0.mk (fun W => tree_rowsOf.calls k st n 0 false W hr)
  clear h4' hb hr
  go_wp2_with (first | (go_at_call 70; (with_reducible refine (HC.out _).mono ?_); rintro e_ wr ⟨rfl, hd_⟩; have HH2 := Aside0.mk ((hd_.below.block _ (blk_lt HH.out)).trans HH.out); have HB2 := Aside0.mk (HB.out.trans (hd_.below.mono HB.out.size)); have y0_ := blk_cell HH2.out 0; have y1_ := blk_cell HH2.out 1; have y2_ := blk_cell HH2.out 2; have y3_ := blk_cell HH2.out 3; have z0_ := blk_frozen HH2.out 0; have z1_ := blk_frozen HH2.out 1; have z2_ := blk_frozen HH2.out 2; have z3_ := blk_frozen HH2.out 3; clear hd_ HH HB HC))
  refine bodyPost_ret (results_ct rfl _ _ _ 24 #[.int .i64 0, .int .i64 0, .slice none 0 0, .int .i64 0] (0, 0) _ rfl ?_ Tryd.underlying24 rfl (by kernel_rfl)) rfl ⟨rfl, ?_⟩
  · exact blk_put (blk_put (blk_put (blk_put HH2.out 0 (.int .i64 0) rfl) 1 (.int .i64 0) rfl) 2 (.slice none 0 0) rfl) 3 (.int .i64 0) rfl
  · exact below_set (below_set (below_set (below_set HB2.out (by omega)) (by omega)) (by omega)) (by omega)
theorem five (w : World) (a b c d e : Obj) : (((((w.alloc a).alloc b).alloc c).alloc d).alloc e).heap[w.heap.size]? = some a ∧ (((((w.alloc a).alloc b).alloc c).alloc d).alloc e).heap[w.heap.size + 1]? = some b ∧ (((((w.alloc a).alloc b).alloc c).alloc d).alloc e).heap[w.heap.size + 1 + 1]? = some c ∧ (((((w.alloc a).alloc b).alloc c).alloc d).alloc e).heap[w.heap.size + 1 + 1 + 1]? = some d ∧ (((((w.alloc a).alloc b).alloc c).alloc d).alloc e).heap[w.heap.size + 1 + 1 + 1 + 1]? = some e ∧ Below w.heap.size w (((((w.alloc a).alloc b).alloc c).alloc d).alloc e) := by
  obtain ⟨h1, h2, h3, h4, hb, hs⟩ := four w a b c d
  have h5 := heap_alloc_new ((((w.alloc a).alloc b).alloc c).alloc d) e
  rw [hs] at h5
  exact ⟨heap_kept h1 e, heap_kept h2 e, heap_kept h3 e, heap_kept h4 e, h5, hb.alloc hb.size e⟩
def capsOf (w wf : World) : Array Value := #[.pointer (some ⟨w.heap.size + 1, 0, none⟩), .pointer (some ⟨w.heap.size + 1 + 1, 0, none⟩), .pointer (some ⟨wf.heap.size + 1 + 1 + 1, 0, none⟩), .pointer (some ⟨w.heap.size, 0, none⟩), .pointer (some ⟨wf.heap.size + 1, 0, none⟩), .pointer (some ⟨wf.heap.size, 0, none⟩), .pointer (some ⟨wf.heap.size + 1 + 1 + 1 + 1, 0, none⟩)]
def cxOf (n st kf : Nat) (fi caps : Array Value) (w wf : World) (p bl br be : Nat) : Cx := ⟨n, st, kf, fi, caps, w.heap.size + 1, w.heap.size + 1 + 1, wf.heap.size + 1 + 1 + 1, w.heap.size, wf.heap.size + 1, wf.heap.size, wf.heap.size + 1 + 1 + 1 + 1, wf.heap.size + 1 + 1, n, p, bl, br, be⟩
theorem cap_of (n st kf : Nat) (fi caps : Array Value) (w wf : World) (p bl br be : Nat) (F : Fo) (nv : Value) (K : List Value) (hn : n ≤ 16) (d : Obj) (hx : Boxes4 wf w.heap.size (.cells #[.int .i64 (st : Int)] 3) (.cells #[.int .i64 (n : Int)] 3) (.cells #[.func (.func kf) fi caps] 45) d) (hf : FoAt w.heap.size wf p F nv bl br be K) (hs : w.heap.size ≤ wf.heap.size) :
    CapAt w.heap.size (((((wf.alloc (.cells #[.pointer (some ⟨p, 0, none⟩)] 105)).alloc (.cells #[.bool false] 4)).alloc (.cells (madeCells #[.int .u8 0] n) 5)).alloc (.cells #[.slice (some ⟨wf.heap.size + 1 + 1, 0, none⟩) n n] 33)).alloc (.cells #[.func (.func 71) #[] (capsOf w wf)] 108)) (cxOf n st kf fi caps w wf p bl br be) F false (List.replicate n 0) nv K ∧ Below wf.heap.size wf (((((wf.alloc (.cells #[.pointer (some ⟨p, 0, none⟩)] 105)).alloc (.cells #[.bool false] 4)).alloc (.cells (madeCells #[.int .u8 0] n) 5)).alloc (.cells #[.slice (some ⟨wf.heap.size + 1 + 1, 0, none⟩) n n] 33)).alloc (.cells #[.func (.func 71) #[] (capsOf w wf)] 108)) := by
  obtain ⟨h1, h2, h3, h4, h5, hb⟩ := five wf (.cells #[.pointer (some ⟨p, 0, none⟩)] 105) (.cells #[.bool false] 4) (.cells (madeCells #[.int .u8 0] n) 5) (.cells #[.slice (some ⟨wf.heap.size + 1 + 1, 0, none⟩) n n] 33) (.cells #[.func (.func 71) #[] (capsOf w wf)] 108)
  have hx5 := hx.on hb
  have hi := ((own_made ((wf.alloc (.cells #[.pointer (some ⟨p, 0, none⟩)] 105)).alloc (.cells #[.bool false] 4)) w.heap.size 5 .u8 n (by simp; omega) (by omega)).alloc (.cells #[.slice (some ⟨wf.heap.size + 1 + 1, 0, none⟩) n n] 33)).alloc (.cells #[.func (.func 71) #[] (capsOf w wf)] 108)
  rw [show ((wf.alloc (.cells #[.pointer (some ⟨p, 0, none⟩)] 105)).alloc (.cells #[.bool false] 4)).heap.size = wf.heap.size + 1 + 1 by simp] at hi
  exact ⟨⟨hx5.b, hx5.c, h4, hx5.a, h2, h1, h5, hi, hf.on hb, Nat.le_trans hs (Nat.le_succ _)⟩, hb⟩
def OfTold (B st n : Nat) (R : (Fo × Bool) × Int) (e : Ending) (w' : World) : Prop :=
  if R.1.2 = true then e = .returned (.tuple #[noTree, .int .i64 7]) else
  if 65536 < R.1.1.nodes.length then e = .returned (.tuple #[noTree, .int .i64 4]) else
  ∃ nv p bl br be K, e = .returned (.tuple #[.agg #[.int .i64 (st : Int), .int .i64 (n : Int), nv, .int .i64 R.2], .int .i64 0]) ∧ FoAt B w' p R.1.1 nv bl br be K
set_option maxHeartbeats 4000000 in
set_option maxRecDepth 100000 in
theorem of_main (st n : Nat) (k : Nat) (kf : Nat) (fi caps : Array Value) (rows : Int) (f : List Int → Int) (w : World) (h1 : 1 ≤ st) (h2 : st ≤ 256) (h4 : n ≤ 16) (hr : tree_rowsOf.f k st n = some (rows, true)) (hcost : cost st n ≤ 100000000)
    (hf : ∀ wf p bl br be, FOk (cxOf n st kf fi caps w wf p bl br be) w f) :
    Calls Tryd.prog 34 #[.int .i64 (st : Int), .int .i64 (n : Int), .func (.func kf) fi caps] w fun e w' => OfTold w.heap.size st n (grow st f n [] (Fo.new st, false)) e w' ∧ Below w.heap.size w w' := by
  have hfe : ∀ W : World, Sem.run Tryd.prog (binOp BinOp.eql 45 (.func (.func kf) fi caps) .nilFunc) W = .ok (.bool false) W := fun _ => rfl
  have hmf : ∀ (fn : Fn) (first cap : Array Value) (w : World), (Instr.makeFunc fn first cap).run Tryd.prog w = .ok (.func fn first cap) w := fun _ _ _ _ => rfl
  have hmk := print_make 33 5 .u8 1 Tryd.underlying33 (by kernel_rfl) (by decide) n (by omega)
  have q1 : ¬ (st : Int) < 1 := by omega
  have q2 : ¬ (st : Int) > 256 := by omega
  have q3 : ¬ (n : Int) < 0 := by omega
  have q4 : ¬ (n : Int) > 16 := by omega
  have HC := Aside0.mk (fun W => tree_rowsOf.calls k st n rows true W hr)
  have HN := Aside0.mk (And.intro h1 (And.intro h2 (And.intro h4 hcost)))
  have HG := Aside0.mk (fun wf p bl br be => grow_calls (cxOf n st kf fi caps w wf p bl br be) w f (hf wf p bl br be) h4 ⟨h1, h2⟩ n)
  generalize hR : grow st f n [] (Fo.new st, false) = R
  have HR := Aside0.mk hR
  have hroom : (Fo.new st).Ok ∧ (Fo.new st).Room (cost st n) := ⟨⟨(fun kl r h => by cases h), (fun kl r h => by cases h), (fun kl r h => by cases h)⟩, ⟨by simpa [Fo.new] using hcost, by simpa [Fo.new] using hcost, by simpa [Fo.new] using hcost, by simpa [Fo.new] using hcost⟩⟩
  have HROOM := Aside0.mk hroom
  clear hr h1 h2 h4 hf hcost hR hroom
  go_enter Tryd.func34, Tryd.ntmps34
  obtain ⟨h3, h4, h5, h6, hb, _⟩ := four w (.cells #[.int .i64 (st : Int)] 3) (.cells #[.int .i64 (n : Int)] 3) (.cells #[.func (.func kf) fi caps] 45) (.cells #[.int .i64 0, .int .i64 0, .slice none 0 0, .int .i64 0] 24)
  have HH := Aside0.mk (Boxes4.mk h3 h4 h5 h6)
  have HB := Aside0.mk hb
  clear h3 h4 h5 h6 hb
  go_upto_region 14 with (first
    | (go_at_call 70; (with_reducible refine (HC.out _).mono ?_); rintro e_ wr ⟨rfl, hd_⟩; have HB2 := Aside0.mk (HB.out.trans (hd_.below.mono HB.out.size)); have HH2 := Aside0.mk (HH.out.on hd_.below); clear hd_ HH HB HC; have HH := HH2; have HB := HB2; clear HH2 HB2; have x3_ := (blk_cell HH.out.a 0).trans (show _ = some (Value.int .i64 (st : Int)) from rfl); have x4_ := (blk_cell HH.out.b 0).trans (show _ = some (Value.int .i64 (n : Int)) from rfl))
    | (go_at_call 61; (with_reducible refine (newForest_calls (st : Int) _).mono ?_); rintro e_ wf ⟨p, bl, br, be, rfl, hf_, hd_⟩; have HB2 := Aside0.mk (HB.out.trans (hd_.mono HB.out.size)); have HH2 := Aside0.mk (HH.out.on hd_); have HF := Aside0.mk (hf_.lower HB.out.size); clear hd_ hf_ HH HB x3_ x4_; have HH := HH2; have HB := HB2; clear HH2 HB2; have x5_ := (blk_cell (heap_kept (heap_kept HH.out.b (.cells #[.pointer (some ⟨p, 0, none⟩)] 105)) (.cells #[.bool false] 4)) 0).trans (show _ = some (Value.int .i64 (n : Int)) from rfl))
    | (go_at_call 71; have hc_ := cap_of n st kf fi caps w wf p bl br be (Fo.new st) (.slice none 0 0) [] HN.out.2.2.1 _ HH.out HF.out HB.out.size; have hg_ := HG.out wf p bl br be [] (List.replicate n 0) (Fo.new st) false (.slice none 0 0) [] _ (Nat.zero_add n) (by simp; rfl) rfl (fun v hv => by cases hv) HROOM.out.1 HROOM.out.2 hc_.1 (HB.out.trans (hc_.2.mono HB.out.size)); rw [show grow (cxOf n st kf fi caps w wf p bl br be).st f n [] (Fo.new st, false) = R from HR.out] at hg_; refine hg_.mono ?_; rintro e_ wg ⟨rfl, row', nv', K', _, _, hc2_, hb2_, hf2_, _, _⟩; have HK := Aside0.mk hc2_; have HBG := Aside0.mk hb2_; have HT := Aside0.mk (show wg.heap[w.heap.size + 1 + 1 + 1]? = some (.cells #[.int .i64 0, .int .i64 0, .slice none 0 0, .int .i64 0] 24 (0, 0)) from (hf2_ _ _ _ _ (HH.out.on hc_.2).d (by decide) (by decide) (by decide) (by decide)).trans (HH.out.on hc_.2).d); clear hg_ hc_ hc2_ hb2_ hf2_ x5_ HH HB HG HF))
  have HS := Aside0.mk (Nat.le_trans HBG.out.size (Nat.le_refl _))
  obtain ⟨⟨F2, bad⟩, rt⟩ := R
  have b_ : wg.cell? ⟨wf.heap.size + 1, 0, none⟩ = some (.bool bad) := blk_cell HK.out.xb 0
  have m_ : wg.cell? ⟨wf.heap.size, 0, none⟩ = some (.pointer (some ⟨p, 0, none⟩)) := blk_cell HK.out.xm 0
  obtain ⟨A2, c2, rfl⟩ := own_slice HK.out.fo.row
  have n_ : wg.cell? ⟨p, 1, none⟩ = some (.slice A2 F2.nodes.length c2) := blk_cell HK.out.fo.box 1
  have HP := Aside0.mk (HK.out.fo)
  by_cases hbad : bad = true
  · have y0_ := blk_cell HT.out 0
    have y1_ := blk_cell HT.out 1
    have y2_ := blk_cell HT.out 2
    have y3_ := blk_cell HT.out 3
    have z0_ := blk_frozen HT.out 0
    have z1_ := blk_frozen HT.out 1
    have z2_ := blk_frozen HT.out 2
    have z3_ := blk_frozen HT.out 3
    subst hbad
    go_wp2
    refine bodyPost_ret (results_ct rfl _ _ _ 24 #[.int .i64 0, .int .i64 0, .slice none 0 0, .int .i64 0] (0, 0) _ rfl ?_ Tryd.underlying24 rfl (by kernel_rfl)) rfl ⟨?_, ?_⟩
    · exact blk_put (blk_put (blk_put (blk_put HT.out 0 (.int .i64 0) rfl) 1 (.int .i64 0) rfl) 2 (.slice none 0 0) rfl) 3 (.int .i64 0) rfl
    · show OfTold _ _ _ _ _ _
      unfold OfTold
      rw [if_pos rfl]
      rfl
    · exact below_set (below_set (below_set (below_set HBG.out (by omega)) (by omega)) (by omega)) (by omega)
  · have hbf : bad = false := by simpa using hbad
    subst hbf
    by_cases hbig : 65536 < F2.nodes.length
    · have y0_ := blk_cell HT.out 0
      have y1_ := blk_cell HT.out 1
      have y2_ := blk_cell HT.out 2
      have y3_ := blk_cell HT.out 3
      have z0_ := blk_frozen HT.out 0
      have z1_ := blk_frozen HT.out 1
      have z2_ := blk_frozen HT.out 2
      have z3_ := blk_frozen HT.out 3
      have hbi : (F2.nodes.length : Int) > 65536 := by omega
      go_wp2
      refine bodyPost_ret (results_ct rfl _ _ _ 24 #[.int .i64 0, .int .i64 0, .slice none 0 0, .int .i64 0] (0, 0) _ rfl ?_ Tryd.underlying24 rfl (by kernel_rfl)) rfl ⟨?_, ?_⟩
      · exact blk_put (blk_put (blk_put (blk_put HT.out 0 (.int .i64 0) rfl) 1 (.int .i64 0) rfl) 2 (.slice none 0 0) rfl) 3 (.int .i64 0) rfl
      · show OfTold _ _ _ _ _ _
        unfold OfTold
        rw [if_neg (by simp), if_pos hbig]
        rfl
      · exact below_set (below_set (below_set (below_set HBG.out (by omega)) (by omega)) (by omega)) (by omega)
    · have hbi : ¬ (F2.nodes.length : Int) > 65536 := by omega
      go_upto_region 18 with fail
      clear b_ m_ n_
      refine start_ (n := 10) (S := fun w' => w'.cell? ⟨w.heap.size, 0, none⟩ = some (.int .i64 (st : Int)) ∧ w'.cell? ⟨w.heap.size + 1, 0, none⟩ = some (.int .i64 (n : Int)) ∧ w'.cell? ⟨wf.heap.size, 0, none⟩ = some (.pointer (some ⟨p, 0, none⟩)) ∧ w'.cell? ⟨p, 1, none⟩ = some (.slice A2 F2.nodes.length c2)) (ds := [8]) #[false, false, false, false, false, false, false, false, false, false] (by kernel_rfl) rfl rfl ⟨blk_cell HK.out.xs 0, blk_cell HK.out.xi 0, blk_cell HK.out.xm 0, blk_cell HP.out.box 1⟩ (fun hHeld => ?_)
      have HT2 := Aside0.mk (blk_drew HT.out)
      have HP2 := Aside0.mk (HP.out.on (below_drew (Below.refl _ _)))
      have HB2 := Aside0.mk (below_drew1 HBG.out)
      clear HK HT HP HBG
      generalize wg.drew = wx at HT2 HP2 HB2 hHeld ⊢
      have HT := HT2
      have HP := HP2
      have HBG := HB2
      clear HT2 HP2 HB2
      refine take_ (i := 0) (N := (some 58)) (v := ?_) (a' := ?_) #[true, false, false, false, false, false, false, false, false, false] rfl rfl (by kernel_rfl) (fun _ _ _ h => h) (Or.inl ⟨by rfl, ?_⟩) hHeld ?_ ?_
      rotate_left
      · rintro w' ⟨s0, s1, s2, s3⟩
        go_simp
        with_reducible rfl
      rotate_left
      · simp only [Act.put, List.setIfInBounds_toArray, List.set_cons_zero, List.set_cons_succ, i64_w, i32_w]
        rfl
      refine take_ (i := 1) (N := (some 59)) (v := ?_) (a' := ?_) #[true, true, false, false, false, false, false, false, false, false] rfl rfl (by kernel_rfl) (fun _ _ _ h => h) (Or.inl ⟨by rfl, ?_⟩) hHeld ?_ ?_
      rotate_left
      · rintro w' ⟨s0, s1, s2, s3⟩
        go_simp
        with_reducible rfl
      rotate_left
      · simp only [Act.put, List.setIfInBounds_toArray, List.set_cons_zero, List.set_cons_succ, i64_w, i32_w]
        rfl
      refine take_ (i := 2) (N := (some 60)) (v := ?_) (a' := ?_) #[true, true, true, false, false, false, false, false, false, false] rfl rfl (by kernel_rfl) (fun _ _ _ h => h) (Or.inl ⟨by rfl, ?_⟩) hHeld ?_ ?_
      rotate_left
      · rintro w' ⟨s0, s1, s2, s3⟩
        go_simp
        with_reducible rfl
      rotate_left
      · simp only [Act.put, List.setIfInBounds_toArray, List.set_cons_zero, List.set_cons_succ, i64_w, i32_w]
        rfl
      refine pure_ (i := 3) (N := (some 61)) (v := ?_) (a' := ?_) #[true, true, true, true, false, false, false, false, false, false] rfl rfl (by kernel_rfl) (fun _ _ _ h => h) (Or.inl ⟨by rfl, ?_⟩) ?_ ?_
      rotate_left
      · intro w'
        go_simp
        with_reducible rfl
      rotate_left
      · simp only [Act.put, List.setIfInBounds_toArray, List.set_cons_zero, List.set_cons_succ, i64_w, i32_w]
        rfl
      refine pure_ (i := 4) (N := (some 62)) (v := ?_) (a' := ?_) #[true, true, true, true, true, false, false, false, false, false] rfl rfl (by kernel_rfl) (fun _ _ _ h => h) (Or.inl ⟨by rfl, ?_⟩) ?_ ?_
      rotate_left
      · intro w'
        go_simp
        with_reducible rfl
      rotate_left
      · simp only [Act.put, List.setIfInBounds_toArray, List.set_cons_zero, List.set_cons_succ, i64_w, i32_w]
        rfl
      refine take_ (i := 5) (N := (some 63)) (v := ?_) (a' := ?_) #[true, true, true, true, true, true, false, false, false, false] rfl rfl (by kernel_rfl) (fun _ _ _ h => h) (Or.inl ⟨by rfl, ?_⟩) hHeld ?_ ?_
      rotate_left
      · rintro w' ⟨s0, s1, s2, s3⟩
        go_simp
        with_reducible rfl
      rotate_left
      · simp only [Act.put, List.setIfInBounds_toArray, List.set_cons_zero, List.set_cons_succ, i64_w, i32_w]
        rfl
      refine pure_ (i := 6) (N := (some 64)) (v := ?_) (a' := ?_) #[true, true, true, true, true, true, true, false, false, false] rfl rfl (by kernel_rfl) (fun _ _ _ h => h) (Or.inl ⟨by rfl, ?_⟩) ?_ ?_
      rotate_left
      · intro w'
        go_simp
        with_reducible rfl
      rotate_left
      · simp only [Act.put, List.setIfInBounds_toArray, List.set_cons_zero, List.set_cons_succ, i64_w, i32_w]
        rfl
      refine pure_ (i := 7) (N := (some 65)) (v := ?_) (a' := ?_) #[true, true, true, true, true, true, true, true, false, false] rfl rfl (by kernel_rfl) (fun _ _ _ h => h) (Or.inl ⟨by rfl, ?_⟩) ?_ ?_
      rotate_left
      · intro w'
        go_simp
        with_reducible rfl
      rotate_left
      · simp only [Act.put, List.setIfInBounds_toArray, List.set_cons_zero, List.set_cons_succ, i64_w, i32_w]
        rfl
      refine last_ (i := 8) (N := none) #[true, true, true, true, true, true, true, true, true, false] rfl rfl (by kernel_rfl) (by decide) (fun K hK => ?_)
      have y0_ := (blk_cell HT.out 0).trans (show ((#[(.int .i64 0), (.int .i64 0), (.slice none 0 0), (.int .i64 0)] : Array Value)[0]?) = some (.int .i64 0) from rfl)
      have y1_ := (blk_cell HT.out 1).trans (show ((#[(.int .i64 0), (.int .i64 0), (.slice none 0 0), (.int .i64 0)] : Array Value)[1]?) = some (.int .i64 0) from rfl)
      have y2_ := (blk_cell HT.out 2).trans (show ((#[(.int .i64 0), (.int .i64 0), (.slice none 0 0), (.int .i64 0)] : Array Value)[2]?) = some (.slice none 0 0) from rfl)
      have y3_ := (blk_cell HT.out 3).trans (show ((#[(.int .i64 0), (.int .i64 0), (.slice none 0 0), (.int .i64 0)] : Array Value)[3]?) = some (.int .i64 0) from rfl)
      have z0_ := blk_frozen HT.out 0
      have z1_ := blk_frozen HT.out 1
      have z2_ := blk_frozen HT.out 2
      have z3_ := blk_frozen HT.out 3
      refine skip_ (w1 := ?_) (by rfl) rfl ?_ ?_
      rotate_left
      · go_simp
        rfl
      clear y0_ z0_ y1_ z1_ y2_ z2_ y3_ z3_
      refine hK.out _ _ ?_
      clear hK K
      refine pure_ (i := 9) (N := (some 7)) (v := ?_) (a' := ?_) #[true, true, true, true, true, true, true, true, true, true] rfl rfl (by kernel_rfl) (fun _ _ _ h => h) (Or.inl ⟨by rfl, ?_⟩) ?_ ?_
      rotate_left
      · intro w'
        go_simp
        with_reducible rfl
      rotate_left
      · simp only [Act.put, List.setIfInBounds_toArray, List.set_cons_zero, List.set_cons_succ, i64_w, i32_w]
        rfl
      refine done_ (by kernel_rfl) ?_
      go_wp2
      refine bodyPost_ret (results_ct rfl _ _ _ 24 #[(.int .i64 (st : Int)), (.int .i64 (n : Int)), (.slice A2 F2.nodes.length c2), (.int .i64 rt)] (0, 0) _ rfl (blk_put (cs := #[(.int .i64 (st : Int)), (.int .i64 (n : Int)), (.slice A2 F2.nodes.length c2), (.int .i64 0)]) (cs' := #[(.int .i64 (st : Int)), (.int .i64 (n : Int)), (.slice A2 F2.nodes.length c2), (.int .i64 rt)]) (blk_put (cs := #[(.int .i64 (st : Int)), (.int .i64 (n : Int)), (.slice none 0 0), (.int .i64 0)]) (cs' := #[(.int .i64 (st : Int)), (.int .i64 (n : Int)), (.slice A2 F2.nodes.length c2), (.int .i64 0)]) (blk_put (cs := #[(.int .i64 (st : Int)), (.int .i64 0), (.slice none 0 0), (.int .i64 0)]) (cs' := #[(.int .i64 (st : Int)), (.int .i64 (n : Int)), (.slice none 0 0), (.int .i64 0)]) (blk_put (cs := #[(.int .i64 0), (.int .i64 0), (.slice none 0 0), (.int .i64 0)]) (cs' := #[(.int .i64 (st : Int)), (.int .i64 0), (.slice none 0 0), (.int .i64 0)]) HT.out 0 (.int .i64 (st : Int)) rfl) 1 (.int .i64 (n : Int)) rfl) 2 (.slice A2 F2.nodes.length c2) rfl) 3 (.int .i64 rt) rfl) Tryd.underlying24 rfl (by kernel_rfl)) rfl ⟨?_, (below_set (below_set (below_set (below_set HBG.out (j := 0) (v := (.int .i64 (st : Int))) (by omega)) (j := 1) (v := (.int .i64 (n : Int))) (by omega)) (j := 2) (v := (.slice A2 F2.nodes.length c2)) (by omega)) (j := 3) (v := (.int .i64 rt)) (by omega))⟩
      show OfTold _ _ _ _ _ _
      unfold OfTold
      rw [if_neg (by simp), if_neg hbig]
      exact ⟨_, p, bl, br, be, K', rfl, (FoAt.set (j := 3) (v := (.int .i64 rt)) (FoAt.set (j := 2) (v := (.slice A2 F2.nodes.length c2)) (FoAt.set (j := 1) (v := (.int .i64 (n : Int))) (FoAt.set (j := 0) (v := (.int .i64 (st : Int))) HP.out HT.out (by decide) (by decide) (by decide)) (blk_put (cs := #[(.int .i64 0), (.int .i64 0), (.slice none 0 0), (.int .i64 0)]) (cs' := #[(.int .i64 (st : Int)), (.int .i64 0), (.slice none 0 0), (.int .i64 0)]) HT.out 0 (.int .i64 (st : Int)) rfl) (by decide) (by decide) (by decide)) (blk_put (cs := #[(.int .i64 (st : Int)), (.int .i64 0), (.slice none 0 0), (.int .i64 0)]) (cs' := #[(.int .i64 (st : Int)), (.int .i64 (n : Int)), (.slice none 0 0), (.int .i64 0)]) (blk_put (cs := #[(.int .i64 0), (.int .i64 0), (.slice none 0 0), (.int .i64 0)]) (cs' := #[(.int .i64 (st : Int)), (.int .i64 0), (.slice none 0 0), (.int .i64 0)]) HT.out 0 (.int .i64 (st : Int)) rfl) 1 (.int .i64 (n : Int)) rfl) (by decide) (by decide) (by decide)) (blk_put (cs := #[(.int .i64 (st : Int)), (.int .i64 (n : Int)), (.slice none 0 0), (.int .i64 0)]) (cs' := #[(.int .i64 (st : Int)), (.int .i64 (n : Int)), (.slice A2 F2.nodes.length c2), (.int .i64 0)]) (blk_put (cs := #[(.int .i64 (st : Int)), (.int .i64 0), (.slice none 0 0), (.int .i64 0)]) (cs' := #[(.int .i64 (st : Int)), (.int .i64 (n : Int)), (.slice none 0 0), (.int .i64 0)]) (blk_put (cs := #[(.int .i64 0), (.int .i64 0), (.slice none 0 0), (.int .i64 0)]) (cs' := #[(.int .i64 (st : Int)), (.int .i64 0), (.slice none 0 0), (.int .i64 0)]) HT.out 0 (.int .i64 (st : Int)) rfl) 1 (.int .i64 (n : Int)) rfl) 2 (.slice A2 F2.nodes.length c2) rfl) (by decide) (by decide) (by decide))⟩
end Go.Proofs.YtbnonnogkgbpiaaDoor.Forest
end
section
namespace Go.Proofs.YtbnonnogkgbpiaaDoor.PT
open Go.RowKit Go.Proofs.YtbnonnogkgbpiaaDoorW.PrintWords Go.Proofs.YtbnonnogkgbpiaaDoorW.PrintLast Go.Proofs.YtbnonnogkgbpiaaDoorW.PrintMore
attribute [local go_sem] max2_int min2_int max_two min_two max_three min_three max_four min_four   -- for this text's walks alone
set_option linter.unusedVariables false
set_option linter.unusedSimpArgs false
def vivariumlaw11_F_says.l0 : Nat → List Int → Int → Int → Int → Int → List Int → Option (Int)
  | 0, _, _, _, _, _, _ => none
  | k + 1, x1, x5, x6, x273000, x273001, x273002 => if x6 < (x1.length : Int) then (if 0 ≤ x6 then (if (x273002.length : Int) = 0 then (none) else (vivariumlaw11_F_says.l0 k x1 (Int.tmod (wrap64 ((wrap64 (x5 * x273000)) + (wrap64 (rd x1 x6)))) (x273002.length : Int)) (wrap64 (x6 + 1)) x273000 x273001 x273002)) else (none)) else (if 0 ≤ x5 then (if x5 < (x273002.length : Int) then (some (rd x273002 x5)) else (none)) else (none))
def vivariumlaw11_F_says.f (k : Nat) (a0_0 : Int) (a0_1 : Int) (l0_2 : List Int) (l1 : List Int) : Option (Int) := if (l0_2.length : Int) = 0 then (some 0) else (vivariumlaw11_F_says.l0 k l1 0 0 a0_0 a0_1 l0_2)
set_option maxHeartbeats 8000000 in
set_option maxRecDepth 100000 in
theorem vivariumlaw11_F_says.calls (k : Nat) (a0_0 : Int) (a0_1 : Int) (A0_2 : Option Addr) (c0_2 : Nat) (l0_2 : List Int) (A1 : Option Addr) (c1 : Nat) (l1 : List Int) (r : Int) (w : World) (hr0_2 : Kd.C (Kd.int .u8) w A0_2 l0_2.length l0_2) (hc0_2 : l0_2.length ≤ c0_2) (hr1 : Kd.C (Kd.int .u8) w A1 l1.length l1) (hc1 : l1.length ≤ c1) (h : vivariumlaw11_F_says.f k a0_0 a0_1 l0_2 l1 = some r) :
    Calls Tryd.prog 26 #[.agg #[.int .i64 a0_0, .int .i64 a0_1, .slice A0_2 l0_2.length c0_2], .slice A1 l1.length c1] w fun e w' => e = .returned (.int .u8 r) ∧ Below w.heap.size w w' := by
  have hu35 := Tryd.underlying35
  have HR0_2 := Aside0.mk hr0_2
  have HC0_2 := Aside0.mk hc0_2
  clear hr0_2 hc0_2
  have HR1 := Aside0.mk hr1
  have HC1 := Aside0.mk hc1
  clear hr1 hc1
  have HB := Aside0.mk (Below.refl w.heap.size w)
  have H : (if (l0_2.length : Int) = 0 then (some 0) else (vivariumlaw11_F_says.l0 k l1 0 0 a0_0 a0_1 l0_2)) = some r := h
  clear h
  by_cases c3 : (l0_2.length : Int) = 0
  · rw [if_pos c3] at H
    have c3b0 : ((l0_2.length : Int) == 0) = true := beq_iff_eq.mpr c3
    have c3b1 : ((l0_2.length : Int) != 0) = false := bne_eq_false_iff_eq.mpr c3
    clear c3
    obtain rfl := Option.some.inj H
    go_enter Tryd.func26, Tryd.ntmps26
    go_wp2_with (first | ((with_reducible refine gate_dst (N := 2) rfl ?_); refine box_event ?hg (N := 2) ?hd (cs := #[.int .i64 a0_0, .int .i64 a0_1, .slice A0_2 l0_2.length c0_2]) (t := 35) ?hr ?_; (case hd => rfl); (case hg => rfl); (case hr => first | (go_simp; done) | (go_simp; rfl)); intro gb272 hg w4 hbox hb; have n0_ := Aside0.mk (below_step (by repeat (first | (with_reducible first | exact HB.out | apply below_alloc | apply pw_below_drewN | apply below_drew1) | exact HB.out)) hb); have n1_ := Aside0.mk (hbox); have n2_ := Aside0.mk ((by rw [hg]; exact (below_size (by repeat (first | (with_reducible first | exact HB.out | apply below_alloc | apply pw_below_drewN | apply below_drew1) | exact HB.out))) : w.heap.size ≤ gb272)); have n3_ := Aside0.mk ((by rw [hg]; exact (below_size (by repeat (first | (with_reducible first | exact HB.out | apply below_alloc | apply pw_below_drewN | apply below_drew1) | exact HB.out))) : w.heap.size ≤ gb272)); clear HB; have HB := n0_; have BK272 := n1_; have GW272 := n2_; have GE272 := n3_; clear n0_ n1_ n2_ n3_; clear hb hbox hg; have hcz5_0 : w4.cell? ⟨gb272, 0, none⟩ = some (.int .i64 a0_0) := (blk_cell BK272.out 0).trans rfl; have hcz5_1 : w4.cell? ⟨gb272, 1, none⟩ = some (.int .i64 a0_1) := (blk_cell BK272.out 1).trans rfl; have hcz5_2 : w4.cell? ⟨gb272, 2, none⟩ = some (.slice A0_2 l0_2.length c0_2) := (blk_cell BK272.out 2).trans rfl; have hfz5_0 := blk_frozen BK272.out 0; have hfz5_1 := blk_frozen BK272.out 1; have hfz5_2 := blk_frozen BK272.out 2))
    repeat (go_quiet (first | ((with_reducible refine gate_dst (N := 2) rfl ?_); refine box_event ?hg (N := 2) ?hd (cs := #[.int .i64 a0_0, .int .i64 a0_1, .slice A0_2 l0_2.length c0_2]) (t := 35) ?hr ?_; (case hd => rfl); (case hg => rfl); (case hr => first | (go_simp; done) | (go_simp; rfl)); intro gb272 hg w4 hbox hb; have n0_ := Aside0.mk (below_step (by repeat (first | (with_reducible first | exact HB.out | apply below_alloc | apply pw_below_drewN | apply below_drew1) | exact HB.out)) hb); have n1_ := Aside0.mk (hbox); have n2_ := Aside0.mk ((by rw [hg]; exact (below_size (by repeat (first | (with_reducible first | exact HB.out | apply below_alloc | apply pw_below_drewN | apply below_drew1) | exact HB.out))) : w.heap.size ≤ gb272)); have n3_ := Aside0.mk ((by rw [hg]; exact (below_size (by repeat (first | (with_reducible first | exact HB.out | apply below_alloc | apply pw_below_drewN | apply below_drew1) | exact HB.out))) : w.heap.size ≤ gb272)); clear HB; have HB := n0_; have BK272 := n1_; have GW272 := n2_; have GE272 := n3_; clear n0_ n1_ n2_ n3_; clear hb hbox hg; have hcz5_0 : w4.cell? ⟨gb272, 0, none⟩ = some (.int .i64 a0_0) := (blk_cell BK272.out 0).trans rfl; have hcz5_1 : w4.cell? ⟨gb272, 1, none⟩ = some (.int .i64 a0_1) := (blk_cell BK272.out 1).trans rfl; have hcz5_2 : w4.cell? ⟨gb272, 2, none⟩ = some (.slice A0_2 l0_2.length c0_2) := (blk_cell BK272.out 2).trans rfl; have hfz5_0 := blk_frozen BK272.out 0; have hfz5_1 := blk_frozen BK272.out 1; have hfz5_2 := blk_frozen BK272.out 2)); try go_wp2_with (first | ((with_reducible refine gate_dst (N := 2) rfl ?_); refine box_event ?hg (N := 2) ?hd (cs := #[.int .i64 a0_0, .int .i64 a0_1, .slice A0_2 l0_2.length c0_2]) (t := 35) ?hr ?_; (case hd => rfl); (case hg => rfl); (case hr => first | (go_simp; done) | (go_simp; rfl)); intro gb272 hg w4 hbox hb; have n0_ := Aside0.mk (below_step (by repeat (first | (with_reducible first | exact HB.out | apply below_alloc | apply pw_below_drewN | apply below_drew1) | exact HB.out)) hb); have n1_ := Aside0.mk (hbox); have n2_ := Aside0.mk ((by rw [hg]; exact (below_size (by repeat (first | (with_reducible first | exact HB.out | apply below_alloc | apply pw_below_drewN | apply below_drew1) | exact HB.out))) : w.heap.size ≤ gb272)); have n3_ := Aside0.mk ((by rw [hg]; exact (below_size (by repeat (first | (with_reducible first | exact HB.out | apply below_alloc | apply pw_below_drewN | apply below_drew1) | exact HB.out))) : w.heap.size ≤ gb272)); clear HB; have HB := n0_; have BK272 := n1_; have GW272 := n2_; have GE272 := n3_; clear n0_ n1_ n2_ n3_; clear hb hbox hg; have hcz5_0 : w4.cell? ⟨gb272, 0, none⟩ = some (.int .i64 a0_0) := (blk_cell BK272.out 0).trans rfl; have hcz5_1 : w4.cell? ⟨gb272, 1, none⟩ = some (.int .i64 a0_1) := (blk_cell BK272.out 1).trans rfl; have hcz5_2 : w4.cell? ⟨gb272, 2, none⟩ = some (.slice A0_2 l0_2.length c0_2) := (blk_cell BK272.out 2).trans rfl; have hfz5_0 := blk_frozen BK272.out 0; have hfz5_1 := blk_frozen BK272.out 1; have hfz5_2 := blk_frozen BK272.out 2)))
    go_ret
    exact ⟨by first | rfl | (simp [errW_none, errW_some] <;> rfl) | (simp [*, errW_none, errW_some] <;> rfl), by repeat (first | (with_reducible first | exact HB.out | apply below_alloc | apply pw_below_drewN | apply below_drew1 | refine below_set ?_ GE272.out) | exact HB.out)⟩
  · rw [if_neg c3] at H
    have c3b0 : ((l0_2.length : Int) == 0) = false := beq_eq_false_iff_ne.mpr c3
    have c3b1 : ((l0_2.length : Int) != 0) = true := bne_iff_ne.mpr c3
    have c3b2 : ¬ (l0_2 = []) := fun h_ => c3 (by rw [h_]; rfl)
    have H' := Aside0.mk H
    clear H
    go_enter Tryd.func26, Tryd.ntmps26
    go_wp2_with (first | ((with_reducible refine gate_dst (N := 2) rfl ?_); refine box_event ?hg (N := 2) ?hd (cs := #[.int .i64 a0_0, .int .i64 a0_1, .slice A0_2 l0_2.length c0_2]) (t := 35) ?hr ?_; (case hd => rfl); (case hg => rfl); (case hr => first | (go_simp; done) | (go_simp; rfl)); intro gb272 hg w6 hbox hb; have n0_ := Aside0.mk (below_step (by repeat (first | (with_reducible first | exact HB.out | apply below_alloc | apply pw_below_drewN | apply below_drew1) | exact HB.out)) hb); have n1_ := Aside0.mk (hbox); have n2_ := Aside0.mk ((by rw [hg]; exact (below_size (by repeat (first | (with_reducible first | exact HB.out | apply below_alloc | apply pw_below_drewN | apply below_drew1) | exact HB.out))) : w.heap.size ≤ gb272)); have n3_ := Aside0.mk ((by rw [hg]; exact (below_size (by repeat (first | (with_reducible first | exact HB.out | apply below_alloc | apply pw_below_drewN | apply below_drew1) | exact HB.out))) : w.heap.size ≤ gb272)); clear HB; have HB := n0_; have BK272 := n1_; have GW272 := n2_; have GE272 := n3_; clear n0_ n1_ n2_ n3_; clear hb hbox hg; have hcz7_0 : w6.cell? ⟨gb272, 0, none⟩ = some (.int .i64 a0_0) := (blk_cell BK272.out 0).trans rfl; have hcz7_1 : w6.cell? ⟨gb272, 1, none⟩ = some (.int .i64 a0_1) := (blk_cell BK272.out 1).trans rfl; have hcz7_2 : w6.cell? ⟨gb272, 2, none⟩ = some (.slice A0_2 l0_2.length c0_2) := (blk_cell BK272.out 2).trans rfl; have hfz7_0 := blk_frozen BK272.out 0; have hfz7_1 := blk_frozen BK272.out 1; have hfz7_2 := blk_frozen BK272.out 2))
    repeat (go_quiet (first | ((with_reducible refine gate_dst (N := 2) rfl ?_); refine box_event ?hg (N := 2) ?hd (cs := #[.int .i64 a0_0, .int .i64 a0_1, .slice A0_2 l0_2.length c0_2]) (t := 35) ?hr ?_; (case hd => rfl); (case hg => rfl); (case hr => first | (go_simp; done) | (go_simp; rfl)); intro gb272 hg w6 hbox hb; have n0_ := Aside0.mk (below_step (by repeat (first | (with_reducible first | exact HB.out | apply below_alloc | apply pw_below_drewN | apply below_drew1) | exact HB.out)) hb); have n1_ := Aside0.mk (hbox); have n2_ := Aside0.mk ((by rw [hg]; exact (below_size (by repeat (first | (with_reducible first | exact HB.out | apply below_alloc | apply pw_below_drewN | apply below_drew1) | exact HB.out))) : w.heap.size ≤ gb272)); have n3_ := Aside0.mk ((by rw [hg]; exact (below_size (by repeat (first | (with_reducible first | exact HB.out | apply below_alloc | apply pw_below_drewN | apply below_drew1) | exact HB.out))) : w.heap.size ≤ gb272)); clear HB; have HB := n0_; have BK272 := n1_; have GW272 := n2_; have GE272 := n3_; clear n0_ n1_ n2_ n3_; clear hb hbox hg; have hcz7_0 : w6.cell? ⟨gb272, 0, none⟩ = some (.int .i64 a0_0) := (blk_cell BK272.out 0).trans rfl; have hcz7_1 : w6.cell? ⟨gb272, 1, none⟩ = some (.int .i64 a0_1) := (blk_cell BK272.out 1).trans rfl; have hcz7_2 : w6.cell? ⟨gb272, 2, none⟩ = some (.slice A0_2 l0_2.length c0_2) := (blk_cell BK272.out 2).trans rfl; have hfz7_0 := blk_frozen BK272.out 0; have hfz7_1 := blk_frozen BK272.out 1; have hfz7_2 := blk_frozen BK272.out 2)); try go_wp2_with (first | ((with_reducible refine gate_dst (N := 2) rfl ?_); refine box_event ?hg (N := 2) ?hd (cs := #[.int .i64 a0_0, .int .i64 a0_1, .slice A0_2 l0_2.length c0_2]) (t := 35) ?hr ?_; (case hd => rfl); (case hg => rfl); (case hr => first | (go_simp; done) | (go_simp; rfl)); intro gb272 hg w6 hbox hb; have n0_ := Aside0.mk (below_step (by repeat (first | (with_reducible first | exact HB.out | apply below_alloc | apply pw_below_drewN | apply below_drew1) | exact HB.out)) hb); have n1_ := Aside0.mk (hbox); have n2_ := Aside0.mk ((by rw [hg]; exact (below_size (by repeat (first | (with_reducible first | exact HB.out | apply below_alloc | apply pw_below_drewN | apply below_drew1) | exact HB.out))) : w.heap.size ≤ gb272)); have n3_ := Aside0.mk ((by rw [hg]; exact (below_size (by repeat (first | (with_reducible first | exact HB.out | apply below_alloc | apply pw_below_drewN | apply below_drew1) | exact HB.out))) : w.heap.size ≤ gb272)); clear HB; have HB := n0_; have BK272 := n1_; have GW272 := n2_; have GE272 := n3_; clear n0_ n1_ n2_ n3_; clear hb hbox hg; have hcz7_0 : w6.cell? ⟨gb272, 0, none⟩ = some (.int .i64 a0_0) := (blk_cell BK272.out 0).trans rfl; have hcz7_1 : w6.cell? ⟨gb272, 1, none⟩ = some (.int .i64 a0_1) := (blk_cell BK272.out 1).trans rfl; have hcz7_2 : w6.cell? ⟨gb272, 2, none⟩ = some (.slice A0_2 l0_2.length c0_2) := (blk_cell BK272.out 2).trans rfl; have hfz7_0 := blk_frozen BK272.out 0; have hfz7_1 := blk_frozen BK272.out 1; have hfz7_2 := blk_frozen BK272.out 2)))
    go_loopg [5, 6] k (fun kq v5 v6 w' => ∃ (x5_1 : Int) (x6_1 : Int), v5 = .int .i64 x5_1 ∧ v6 = .int .i64 x6_1 ∧ Aside0 (vivariumlaw11_F_says.l0 kq l1 x5_1 x6_1 a0_0 a0_1 l0_2 = some r) ∧ Aside0 (kq ≤ k) ∧ Aside0 (w'.heap[gb272]? = some (.cells #[.int .i64 a0_0, .int .i64 a0_1, (.slice A0_2 l0_2.length c0_2)] 35 (0, 0))) ∧ Aside0 (Below w.heap.size w w'))
    case atStart => exact ⟨(0), (0), (by first | rfl | (simp; done) | (simp [*]; done) | (simp [wrap64]; done)), (by first | rfl | (simp; done) | (simp [*]; done) | (simp [wrap64]; done)), H', ⟨Nat.le_refl _⟩, ⟨by (with_reducible repeat (first | refine blk_drewN ?_ _ | refine blk_drew ?_ | refine blk_alloc ?_ _)); exact BK272.out⟩, ⟨by repeat (first | (with_reducible first | exact HB.out | apply below_alloc | apply pw_below_drewN | apply below_drew1 | refine below_set ?_ GE272.out) | exact HB.out)⟩⟩
    case round =>
      clear H'
      try clear c1
      try clear c2
      try clear p2
      try clear c3
      try clear c3b0
      try clear c3b1
      try clear c3b2
      try clear hcz5_0
      try clear hcz5_1
      try clear hcz5_2
      try clear hcz7_0
      try clear hcz7_1
      try clear hcz7_2
      try clear hfz5_0
      try clear hfz5_1
      try clear hfz5_2
      try clear hfz7_0
      try clear hfz7_1
      try clear hfz7_2
      obtain ⟨x5_1, x6_1, rfl, rfl, HA, HK1, BK272, HB⟩ := hrel
      cases gk with
      | zero => exact absurd HA.out (by simp [vivariumlaw11_F_says.l0])
      | succ k1 =>
        have H := HA.out
        clear HA
        simp only [vivariumlaw11_F_says.l0] at H
        by_cases c8 : x6_1 < (l1.length : Int)
        · rw [if_pos c8] at H
          have c8b0 : decide (x6_1 < (l1.length : Int)) = true := decide_eq_true c8
          clear c8
          by_cases c9 : 0 ≤ x6_1
          · rw [if_pos c9] at H
            have c9b0 : decide (0 ≤ x6_1) = true := decide_eq_true c9
            clear c9
            by_cases c10 : (l0_2.length : Int) = 0
            · rw [if_pos c10] at H
              exact absurd H (by simp)
            · rw [if_neg c10] at H
              have c10b0 : ((l0_2.length : Int) == 0) = false := beq_eq_false_iff_ne.mpr c10
              have c10b1 : ((l0_2.length : Int) != 0) = true := bne_iff_ne.mpr c10
              have c10b2 : ¬ (l0_2 = []) := fun h_ => c10 (by rw [h_]; rfl)
              have H' := Aside0.mk H
              clear H
              have hcz11_0 : wr.cell? ⟨gb272, 0, none⟩ = some (.int .i64 a0_0) := (blk_cell BK272.out 0).trans rfl
              have hcz11_1 : wr.cell? ⟨gb272, 1, none⟩ = some (.int .i64 a0_1) := (blk_cell BK272.out 1).trans rfl
              have hcz11_2 : wr.cell? ⟨gb272, 2, none⟩ = some (.slice A0_2 l0_2.length c0_2) := (blk_cell BK272.out 2).trans rfl
              have hfz11_0 := blk_frozen BK272.out 0
              have hfz11_1 := blk_frozen BK272.out 1
              have hfz11_2 := blk_frozen BK272.out 2
              have p273 : 0 ≤ (x6_1 : Int) := of_decide_eq_true (by first | (with_reducible assumption) | assumption)
              have q273 : x6_1 < (l1.length : Int) := of_decide_eq_true (by first | (with_reducible assumption) | assumption)
              obtain ⟨ad273, e273, hx273_0⟩ := Kd.at_int HR1.out x6_1 p273 q273
              cases e273
              replace hx273_0 := (HB.out.cell (World.block_lt_of_cell? w _ hx273_0)).trans hx273_0
              replace p273 := eq_true p273
              replace q273 := eq_true q273
              go_wp2
              repeat (go_quiet (fail); try go_wp2)
              go_roundg k1
              case measure => have := HK1.out; omega
              case rel => exact ⟨(Int.tmod (wrap64 ((wrap64 (x5_1 * a0_0)) + (wrap64 (rd l1 x6_1)))) (l0_2.length : Int)), (wrap64 (x6_1 + 1)), (by first | rfl | (simp; done) | (simp [*]; done) | (simp [wrap64]; done)), (by first | rfl | (simp; done) | (simp [*]; done) | (simp [wrap64]; done)), H', ⟨by have := HK1.out; omega⟩, ⟨by (with_reducible repeat (first | refine blk_drewN ?_ _ | refine blk_drew ?_ | refine blk_alloc ?_ _)); exact BK272.out⟩, ⟨by repeat (first | (with_reducible first | exact HB.out | apply below_alloc | apply pw_below_drewN | apply below_drew1 | refine below_set ?_ GE272.out) | exact HB.out)⟩⟩
          · rw [if_neg c9] at H
            exact absurd H (by simp)
        · rw [if_neg c8] at H
          have c8b0 : decide (x6_1 < (l1.length : Int)) = false := decide_eq_false c8
          clear c8
          by_cases c12 : 0 ≤ x5_1
          · rw [if_pos c12] at H
            have c12b0 : decide (0 ≤ x5_1) = true := decide_eq_true c12
            clear c12
            by_cases c13 : x5_1 < (l0_2.length : Int)
            · rw [if_pos c13] at H
              have c13b0 : decide (x5_1 < (l0_2.length : Int)) = true := decide_eq_true c13
              clear c13
              obtain rfl := Option.some.inj H
              have hcz14_0 : wr.cell? ⟨gb272, 0, none⟩ = some (.int .i64 a0_0) := (blk_cell BK272.out 0).trans rfl
              have hcz14_1 : wr.cell? ⟨gb272, 1, none⟩ = some (.int .i64 a0_1) := (blk_cell BK272.out 1).trans rfl
              have hcz14_2 : wr.cell? ⟨gb272, 2, none⟩ = some (.slice A0_2 l0_2.length c0_2) := (blk_cell BK272.out 2).trans rfl
              have hfz14_0 := blk_frozen BK272.out 0
              have hfz14_1 := blk_frozen BK272.out 1
              have hfz14_2 := blk_frozen BK272.out 2
              have p274 : 0 ≤ (x5_1 : Int) := of_decide_eq_true (by first | (with_reducible assumption) | assumption)
              have q274 : x5_1 < (l0_2.length : Int) := of_decide_eq_true (by first | (with_reducible assumption) | assumption)
              obtain ⟨ad274, e274, hx274_0⟩ := Kd.at_int HR0_2.out x5_1 p274 q274
              cases e274
              replace hx274_0 := (HB.out.cell (World.block_lt_of_cell? w _ hx274_0)).trans hx274_0
              replace p274 := eq_true p274
              replace q274 := eq_true q274
              go_wp2
              repeat (go_quiet (fail); try go_wp2)
              go_ret
              exact ⟨by first | rfl | (simp [errW_none, errW_some] <;> rfl) | (simp [*, errW_none, errW_some] <;> rfl), by repeat (first | (with_reducible first | exact HB.out | apply below_alloc | apply pw_below_drewN | apply below_drew1 | refine below_set ?_ GE272.out) | exact HB.out)⟩
            · rw [if_neg c13] at H
              exact absurd H (by simp)
          · rw [if_neg c12] at H
            exact absurd H (by simp)
def vivariumlaw11_differ.f  : Option (Int × Int × List Int) := some (2, 2, (([0, 1, 1, 0] : List Int)))
set_option maxHeartbeats 8000000 in
set_option maxRecDepth 100000 in
theorem vivariumlaw11_differ.calls  (r1 : Int) (r2 : Int) (r3 : List Int) (w : World) (h : vivariumlaw11_differ.f  = some (r1, r2, r3)) :
    Calls Tryd.prog 50 #[] w fun e w' => ∃ v2_ : Value, e = .returned (.agg #[.int .i64 r1, .int .i64 r2, v2_]) ∧ Kd.R (Kd.int .u8) 5 w' w.heap.size (fun _ => True) v2_ r3 ∧ Below w.heap.size w w' := by
  have hu35 := Tryd.underlying35
  have HB := Aside0.mk (Below.refl w.heap.size w)
  have H : (some (2, 2, (([0, 1, 1, 0] : List Int)))) = some (r1, r2, r3) := h
  clear h
  obtain ⟨y283, hy283⟩ : ∃ y_ : List Int, y_ = (([0, 1, 1, 0] : List Int)) := ⟨_, rfl⟩
  replace H : (some (2, 2, y283)) = some (r1, r2, r3) := by first | (rw [hy283]; with_reducible exact H) | (have H2_ := (Option.bind_some _ _).symm.trans H; rw [hy283]; with_reducible exact H2_) | (have H2_ := (Option.bind_some _ _).symm.trans H; with_reducible exact H2_) | with_reducible exact H | (rw [hy283]; exact H) | exact H
  have Ny283 := Aside0.mk hy283
  clear hy283
  simp only [Option.some.injEq, Prod.mk.injEq] at H
  obtain ⟨rfl, rfl, rfl⟩ := H
  go_enter Tryd.func50, Tryd.ntmps50
  go_wp2_with (first | ((with_reducible refine gate_dst (N := 0) rfl ?_); refine box_event ?hg (N := 0) ?hd (cs := #[.int .i64 0, .int .i64 0, .slice none 0 0]) (t := 35) ?hr ?_; (case hd => rfl); (case hg => rfl); (case hr => first | (go_simp; done) | (go_simp; rfl)); intro gb282 hg w1 hbox hb; have n0_ := Aside0.mk (below_step (by repeat (first | (with_reducible first | exact HB.out | apply below_alloc | apply pw_below_drewN | apply below_drew1) | exact HB.out)) hb); have n1_ := Aside0.mk (hbox); have n2_ := Aside0.mk ((by rw [hg]; exact (below_size (by repeat (first | (with_reducible first | exact HB.out | apply below_alloc | apply pw_below_drewN | apply below_drew1) | exact HB.out))) : w.heap.size ≤ gb282)); have n3_ := Aside0.mk ((by rw [hg]; exact (below_size (by repeat (first | (with_reducible first | exact HB.out | apply below_alloc | apply pw_below_drewN | apply below_drew1) | exact HB.out))) : w.heap.size ≤ gb282)); clear HB; have HB := n0_; have BK282 := n1_; have GW282 := n2_; have GE282 := n3_; clear n0_ n1_ n2_ n3_; clear hb hbox hg) | ((with_reducible refine gate_dst (N := 1) rfl ?_); refine Kd.R_lit (Kd.int .u8) _ 5 ?hg (N := 1) ?hd (xs := ([0, 1, 1, 0] : List Int)) (inner := [.int .u8 0, .int .u8 1, .int .u8 1, .int .u8 0]) (ok := fun _ => True) (okp := fun _ => True) ?hr ?hp (fun _ hk => hk) trivial (Below.refl _ _) (Nat.le_refl _) (by simp) ?_; (case hd => rfl); (case hg => rfl); (case hr => first | (go_simp; done) | (go_simp; rfl)); (case hp => exact (Reps.one (show Kd.M (Kd.int .u8) _ _ _ 0 [.int .u8 0] from rfl) (Reps.one (show Kd.M (Kd.int .u8) _ _ _ 1 [.int .u8 1] from rfl) (Reps.one (show Kd.M (Kd.int .u8) _ _ _ 1 [.int .u8 1] from rfl) (Reps.one (show Kd.M (Kd.int .u8) _ _ _ 0 [.int .u8 0] from rfl) (Reps.none _ _)))))); intro v284 w2 ho3 hb hg_ hnew_; clear hg_ hnew_; (first | rw [← Ny283.out] at ho3 | (simp only [Int.reduceToNat] at ho3; rw [← Ny283.out] at ho3)); have n0_ := Aside0.mk (Kd.R_lower ho3 (below_size (by repeat (first | (with_reducible first | exact HB.out | apply below_alloc | apply pw_below_drewN | apply below_drew1 | refine below_set ?_ GE282.out) | exact HB.out)))); have n1_ := Aside0.mk (blk_below (g := gb282) (o := .cells #[.int .i64 0, .int .i64 0, .slice none 0 0] 35 (0, 0)) (by (with_reducible repeat (first | refine blk_drewN ?_ _ | refine blk_drew ?_ | refine blk_alloc ?_ _)); exact BK282.out) hb); have n2_ := Aside0.mk (below_step (by repeat (first | (with_reducible first | exact HB.out | apply below_alloc | apply pw_below_drewN | apply below_drew1 | refine below_set ?_ GE282.out) | exact HB.out)) hb); clear BK282; clear HB; have HO285 := n0_; have BK282 := n1_; have HB := n2_; clear n0_ n1_ n2_; clear hb ho3; obtain ⟨Ao4, co4, eo4⟩ := Kd.R_slice HO285.out; subst eo4; have hcz5_0 : w2.cell? ⟨gb282, 0, none⟩ = some (.int .i64 0) := (blk_cell BK282.out 0).trans rfl; have hcz5_1 : w2.cell? ⟨gb282, 1, none⟩ = some (.int .i64 0) := (blk_cell BK282.out 1).trans rfl; have hcz5_2 : w2.cell? ⟨gb282, 2, none⟩ = some (.slice none 0 0) := (blk_cell BK282.out 2).trans rfl; have hfz5_0 := blk_frozen BK282.out 0; have hfz5_1 := blk_frozen BK282.out 1; have hfz5_2 := blk_frozen BK282.out 2))
  refine bodyPost_ret (results_cell_row rfl _ _ gb282 35 #[.int .i64 2, .int .i64 2, .slice Ao4 y283.length co4] (0, 0) _ rfl (by (with_reducible repeat (first | refine blk_drewN ?_ _ | refine blk_drew ?_ | refine blk_alloc ?_ _)); refine blk_put (cs := #[.int .i64 2, .int .i64 2, .slice none 0 0]) ?_ 2 _ rfl; (with_reducible repeat (first | refine blk_drewN ?_ _ | refine blk_drew ?_ | refine blk_alloc ?_ _)); refine blk_put (cs := #[.int .i64 2, .int .i64 0, .slice none 0 0]) ?_ 1 _ rfl; (with_reducible repeat (first | refine blk_drewN ?_ _ | refine blk_drew ?_ | refine blk_alloc ?_ _)); refine blk_put (cs := #[.int .i64 0, .int .i64 0, .slice none 0 0]) ?_ 0 _ rfl; (with_reducible repeat (first | refine blk_drewN ?_ _ | refine blk_drew ?_ | refine blk_alloc ?_ _)); exact BK282.out) Tryd.underlying35 rfl (by kernel_rfl)) rfl ?_
  exact ⟨_, by first | rfl | (simp [errW_none, errW_some] <;> rfl) | (simp [*, errW_none, errW_some] <;> rfl), by (with_reducible repeat (first | apply Kd.R_alloc | apply Kd.R_drewN | apply Kd.R_drew)); exact Kd.R_mono (Kd.R_far (p := ⟨gb282, 2, none⟩) (Kd.R_far (p := ⟨gb282, 1, none⟩) (Kd.R_far (p := ⟨gb282, 0, none⟩) (Kd.R_types HO285.out BK282.out (by decide)) (fun _ hk => hk.2) (.int .i64 2)) (fun _ hk => hk.2) (.int .i64 2)) (fun _ hk => hk.2) (.slice Ao4 y283.length co4)) (fun _ hk => trivial), by repeat (first | (with_reducible first | exact HB.out | apply below_alloc | apply pw_below_drewN | apply below_drew1 | refine below_set ?_ GE282.out) | exact HB.out)⟩
end Go.Proofs.YtbnonnogkgbpiaaDoor.PT
end
section
namespace Go.Proofs.YtbnonnogkgbpiaaDoor.Says
open Go Go.RowKit Go.Proofs.YtbnonnogkgbpiaaDoorW.PrintWords Go.Proofs.YtbnonnogkgbpiaaDoorW.PrintLast Go.Proofs.YtbnonnogkgbpiaaDoorW.PrintMore Go.Proofs.YtbnonnogkgbpiaaDoor.PT
set_option linter.unusedVariables false
set_option linter.unusedSimpArgs false
def numFrom (st m : Int) : List Int → Int → Int
  | [], a => a
  | x :: xs, a => numFrom st m xs ((a * st + x) % m)
def said (st : Int) (ans xs : List Int) : Int := if ans.length = 0 then 0 else rd ans (numFrom st ans.length xs 0)
theorem said_byte {st : Int} {ans xs : List Int} (h : ∀ v ∈ ans, 0 ≤ v ∧ v ≤ 255) : 0 ≤ said st ans xs ∧ said st ans xs ≤ 255 := by
  unfold said
  split
  · omega
  · unfold rd
    rw [List.getD_eq_getElem?_getD]
    rcases hq : ans[(numFrom st ans.length xs 0).toNat]? with _ | v
    · simp
    · exact h v (List.mem_of_getElem? hq)
theorem l0_says (st n : Int) (ans : List Int) (hst : 0 ≤ st ∧ st ≤ 256) (hl : 0 < ans.length) (hu : ans.length ≤ 281474976710656) (xs : List Int) (hx : ∀ v ∈ xs, 0 ≤ v ∧ v ≤ 255) (hxl : xs.length ≤ 65536) : ∀ (d i : Nat) (a : Int), i + d = xs.length → 0 ≤ a → a < ans.length →
    vivariumlaw11_F_says.l0 (d + 1) xs a i st n ans = some (rd ans (numFrom st ans.length (xs.drop i) a)) := by
  intro d
  induction d with
  | zero =>
    intro i a hi h0 h1
    simp only [vivariumlaw11_F_says.l0]
    rw [if_neg (by omega), if_pos h0, if_pos h1, List.drop_of_length_le (by omega)]
    rfl
  | succ d ih =>
    intro i a hi h0 h1
    have hlt : i < xs.length := by omega
    have q1 : (i : Int) < xs.length := by omega
    have q2 : (0 : Int) ≤ i := by omega
    have q3 : ¬ (ans.length : Int) = 0 := by omega
    have hx1 := hx _ (List.getElem_mem hlt)
    have hr : rd xs (i : Int) = xs[i] := by
      unfold rd
      rw [Int.toNat_natCast, List.getD_eq_getElem?_getD, List.getElem?_eq_getElem hlt]
      rfl
    have hb : 0 ≤ a * st ∧ a * st ≤ 281474976710656 * 256 := ⟨Int.mul_nonneg h0 hst.1, Int.mul_le_mul (by omega) hst.2 hst.1 (by omega)⟩
    have hw : wrap64 (wrap64 (a * st) + wrap64 (rd xs (i : Int))) = a * st + xs[i] := by
      rw [hr]
      generalize a * st = p at *
      generalize xs[i] = x at *
      unfold wrap64
      omega
    have hm : Int.tmod (a * st + xs[i]) ans.length = (a * st + xs[i]) % ans.length := Int.tmod_eq_emod_of_nonneg (by omega)
    have hw2 : wrap64 ((i : Int) + 1) = ((i + 1 : Nat) : Int) := by unfold wrap64; omega
    have q4 : (0 : Int) < ans.length := by omega
    have e := ih (i + 1) ((a * st + xs[i]) % ans.length) (by omega) (Int.emod_nonneg _ q3) (Int.emod_lt_of_pos _ q4)
    rw [vivariumlaw11_F_says.l0, if_pos q1, if_pos q2, if_neg q3, hw, hm, hw2, e, List.drop_eq_getElem_cons hlt]
    rfl
theorem says_is (st n : Int) (ans : List Int) (hst : 0 ≤ st ∧ st ≤ 256) (hu : ans.length ≤ 281474976710656) (xs : List Int) (hx : ∀ v ∈ xs, 0 ≤ v ∧ v ≤ 255) (hxl : xs.length ≤ 65536) : vivariumlaw11_F_says.f (xs.length + 1) st n ans xs = some (said st ans xs) := by
  unfold vivariumlaw11_F_says.f said
  by_cases h : ans.length = 0
  · rw [if_pos (by omega), if_pos h]
  · rw [if_neg (by omega), if_neg h]
    exact l0_says st n ans hst (by omega) hu xs hx hxl xs.length 0 0 (by omega) (by omega) (by omega)
end Go.Proofs.YtbnonnogkgbpiaaDoor.Says
end
section
namespace Go.Proofs.YtbnonnogkgbpiaaDoor.Forest
open Go Go.RowKit Go.Maps Go.Proofs.YtbnonnogkgbpiaaDoor.MapI Go.Proofs.YtbnonnogkgbpiaaDoor.TreeKeys Go.Proofs.YtbnonnogkgbpiaaDoorW.PrintWords Go.Proofs.YtbnonnogkgbpiaaDoorW.PrintLast Go.Proofs.YtbnonnogkgbpiaaDoorW.PrintMore Go.Proofs.YtbnonnogkgbpiaaDoor.PT Go.Proofs.YtbnonnogkgbpiaaDoor.Says
set_option linter.unusedVariables false
set_option linter.unusedSimpArgs false
def nodesS (l : List (Int × List Int)) : List S49 := l.map fun p => ⟨p.1, p.2⟩
section
variable {B p bl br be : Nat} {W W' : World} {F : Fo} {nv : Value} {K : List Value}
theorem FoAt.rows (h : FoAt B W p F nv bl br be K) : Kd.R k49 49 W B (fun k => B ≤ k) nv (nodesS F.nodes) := by
  have hl : (nodesS F.nodes).length = F.nodes.length := List.length_map ..
  have step : ∀ i, i ≤ F.nodes.length → Reps (k49.M W B (fun k => B ≤ k ∧ some k ≠ nv.ownBlock)) 2 ((nodesS F.nodes).take i) (ncells F.nodes K i) := by
    intro i
    induction i with
    | zero => exact fun _ => Reps.none _ _
    | succ i ih =>
      intro hi
      have hlt : i < F.nodes.length := hi
      have hk : i < K.length := by rw [h.len]; exact hlt
      have hki : K[i]? = some K[i] := List.getElem?_eq_getElem hk
      have ho := h.kid i _ hki
      have hne := own_type_ne ho h.row (by decide)
      rw [List.take_succ_eq_append_getElem (by rw [hl]; exact hlt)]
      refine Reps.snoc (ih (by omega)) ?_ rfl
      have e1 : F.nodes.getD i (0, []) = F.nodes[i] := by rw [List.getD_eq_getElem?_getD, List.getElem?_eq_getElem hlt]; rfl
      have e2 : K.getD i (.slice none 0 0) = K[i] := by rw [List.getD_eq_getElem?_getD, hki]; rfl
      have e3 : (nodesS F.nodes)[i]'(by rw [hl]; exact hlt) = ⟨F.nodes[i].1, F.nodes[i].2⟩ := List.getElem_map ..
      rw [e1, e2, e3]
      rw [e1] at ho
      exact k49_mkM W B _ ⟨F.nodes[i].1, F.nodes[i].2⟩ (Kd.R_of_own ho (fun k hk => ⟨own_base ho k hk, fun e => by
        rcases hne with h0 | h0
        · rw [h0] at hk; cases hk
        · exact h0 (hk.trans e)⟩))
  have hs := step F.nodes.length (Nat.le_refl _)
  rw [← hl, List.take_length] at hs
  rw [hl] at hs
  exact ⟨fun k hk => own_base h.row k hk, _, by rw [hl]; exact h.row, hs⟩
end
def Told (B : Nat) (st n : Int) (ns : List S49) (rt code : Int) (e : Ending) (w' : World) : Prop :=
  ∃ nv, e = .returned (.tuple #[.agg #[.int .i64 st, .int .i64 n, nv, .int .i64 rt], .int .i64 code]) ∧ Kd.R k49 49 w' B (fun k => B ≤ k) nv ns
theorem Told.none (B : Nat) (code : Int) (w' : World) : Told B 0 0 [] 0 code (.returned (.tuple #[noTree, .int .i64 code])) w' :=
  ⟨_, rfl, Kd.R_nil _ _ _ _ _⟩
def grown (st n : Nat) (f : List Int → Int) : (Int × Int × List S49 × Int) × Int :=
  if (grow st f n [] (Fo.new st, false)).1.2 = true then ((0, 0, [], 0), 7) else
  if 65536 < (grow st f n [] (Fo.new st, false)).1.1.nodes.length then ((0, 0, [], 0), 4) else
  ((st, n, nodesS (grow st f n [] (Fo.new st, false)).1.1.nodes, (grow st f n [] (Fo.new st, false)).2), 0)
def TellsT (B : Nat) (r : (Int × Int × List S49 × Int) × Int) (e : Ending) (w' : World) : Prop := Told B r.1.1 r.1.2.1 r.1.2.2.1 r.1.2.2.2 r.2 e w'
theorem OfTold.tells {B st n : Nat} {f : List Int → Int} {e : Ending} {w' : World} (h : OfTold B st n (grow st f n [] (Fo.new st, false)) e w') : TellsT B (grown st n f) e w' := by
  unfold OfTold at h
  unfold grown
  split at h
  · rename_i c
    rw [if_pos c, h]
    exact Told.none _ _ _
  · rename_i c
    rw [if_neg c]
    split at h
    · rename_i c2
      rw [if_pos c2, h]
      exact Told.none _ _ _
    · rename_i c2
      rw [if_neg c2]
      obtain ⟨nv, p, bl, br, be, K, rfl, hf⟩ := h
      exact ⟨nv, rfl, hf.rows⟩
theorem of1_calls (g : Nat) (st n : Int) (A : Option Addr) (c : Nat) (ans : List Int) (ad : Addr) (cc : Nat) (pre : List Int) (W : World) (hb : W.heap[g]? = some (.cells #[.int .i64 st, .int .i64 n, .slice A ans.length c] 35 (0, 0)))
    (hr : Kd.C (Kd.int .u8) W A ans.length ans) (hc : ans.length ≤ c) (hp : Kd.C (Kd.int .u8) W (some ad) pre.length pre) (hpc : pre.length ≤ cc)
    (hst : 0 ≤ st ∧ st ≤ 256) (hu : ans.length ≤ 281474976710656) (hx : ∀ v ∈ pre, 0 ≤ v ∧ v ≤ 255) (hxl : pre.length ≤ 65536) :
    Calls Tryd.prog 59 #[.slice (some ad) pre.length cc, .pointer (some ⟨g, 0, none⟩)] W fun e w' => e = .returned (.int .u8 (said st ans pre)) ∧ Below W.heap.size W w' := by
  have hu35 := Tryd.underlying35
  have hs := vivariumlaw11_F_says.calls (pre.length + 1) st n A c ans (some ad) cc pre _ W hr hc hp hpc (says_is st n ans hst hu pre hx hxl)
  have HS := Aside0.mk hs
  have c0 : W.cell? ⟨g, 0, none⟩ = some (.int .i64 st) := blk_cell hb 0
  have c1 : W.cell? ⟨g, 1, none⟩ = some (.int .i64 n) := blk_cell hb 1
  have c2 : W.cell? ⟨g, 2, none⟩ = some (.slice A ans.length c) := blk_cell hb 2
  clear hs hr hc hp hpc hst hu hx hxl hb
  go_enter Tryd.func59, Tryd.ntmps59
  go_wp2_with (go_at_call 26; (with_reducible refine HS.out.mono ?_); rintro e_ w2 ⟨rfl, hd⟩)
  go_ret
  exact ⟨rfl, hd⟩
theorem FOk.says (w wf : World) (g : Nat) (st n : Nat) (A : Option Addr) (c : Nat) (ans : List Int) (hb : w.heap[g]? = some (.cells #[.int .i64 (st : Int), .int .i64 (n : Int), .slice A ans.length c] 35 (0, 0)))
    (hr : Kd.C (Kd.int .u8) w A ans.length ans) (hc : ans.length ≤ c) (hst : st ≤ 256) (hn : n ≤ 16) (hu : ans.length ≤ 281474976710656) (hby : ∀ v ∈ ans, 0 ≤ v ∧ v ≤ 255) (p bl br be : Nat) :
    FOk (cxOf n st 59 #[] #[.pointer (some ⟨g, 0, none⟩)] w wf p bl br be) w (said st ans) := by
  refine ⟨⟨_, Tryd.func59, by kernel_rfl, by kernel_rfl⟩, fun pre => said_byte hby, ?_⟩
  intro pre ad cc W hl hin hread hcc hB
  have hl' : pre.length = n := hl
  have hin' : ∀ v ∈ pre, 0 ≤ v ∧ v < (st : Int) := hin
  have hread' : ReadsInt W .u8 (some ad) n pre := hread
  have hcc' : n ≤ cc := hcc
  have hp : Kd.C (Kd.int .u8) W (some ad) pre.length pre := by rw [hl']; exact Kd.C_of_reads hread'
  have h := of1_calls g st n A c ans ad cc pre W ((hB.block _ (blk_lt hb)).trans hb) (Kd.C_below hr hB) hc hp (by omega) (by omega) hu (fun v hv => by have := hin' v hv; omega) (by omega)
  rw [hl'] at h
  exact h
theorem two (w : World) (a b : Obj) : ((w.alloc a).alloc b).heap[w.heap.size]? = some a ∧ ((w.alloc a).alloc b).heap[w.heap.size + 1]? = some b ∧ Below w.heap.size w ((w.alloc a).alloc b) ∧ ((w.alloc a).alloc b).heap.size = w.heap.size + 1 + 1 := by
  have s1 : (w.alloc a).heap.size = w.heap.size + 1 := by simp
  have h1 := heap_alloc_new w a
  have h2 := heap_alloc_new (w.alloc a) b
  rw [s1] at h2
  exact ⟨heap_kept h1 b, h2, ((Below.refl _ w).alloc (Nat.le_refl _) a).alloc (by simp) b, by simp⟩
set_option maxHeartbeats 4000000 in
set_option maxRecDepth 100000 in
theorem law_of (st n : Int) (A : Option Addr) (l c : Nat) (w : World) (r : (Int × Int × List S49 × Int) × Int)
    (h : Calls Tryd.prog 34 #[.int .i64 st, .int .i64 n, .func (.func 59) #[] #[.pointer (some ⟨w.heap.size, 0, none⟩)]] ((w.alloc (.cells #[.int .i64 st, .int .i64 n, .slice A l c] 35)).alloc (.cells #[.int .i64 0, .int .i64 0, .slice none 0 0, .int .i64 0] 24)) fun e w' => TellsT (w.heap.size + 1 + 1) r e w' ∧ Below (w.heap.size + 1 + 1) ((w.alloc (.cells #[.int .i64 st, .int .i64 n, .slice A l c] 35)).alloc (.cells #[.int .i64 0, .int .i64 0, .slice none 0 0, .int .i64 0] 24)) w') :
    Calls Tryd.prog 21 #[.agg #[.int .i64 st, .int .i64 n, .slice A l c]] w fun e w' => TellsT w.heap.size r e w' ∧ Below w.heap.size w w' := by
  have hmf : ∀ (fn : Fn) (first cap : Array Value) (w : World), (Instr.makeFunc fn first cap).run Tryd.prog w = .ok (.func fn first cap) w := fun _ _ _ _ => rfl
  have hu24 := Tryd.underlying24
  have hu35 := Tryd.underlying35
  have HC := Aside0.mk h
  clear h
  obtain ⟨h1, h2, hb, hsz⟩ := two w (.cells #[.int .i64 st, .int .i64 n, .slice A l c] 35) (.cells #[.int .i64 0, .int .i64 0, .slice none 0 0, .int .i64 0] 24)
  have c0 : ((w.alloc (.cells #[.int .i64 st, .int .i64 n, .slice A l c] 35)).alloc (.cells #[.int .i64 0, .int .i64 0, .slice none 0 0, .int .i64 0] 24)).cell? ⟨w.heap.size, 0, none⟩ = some (.int .i64 st) := blk_cell h1 0
  have c1 : ((w.alloc (.cells #[.int .i64 st, .int .i64 n, .slice A l c] 35)).alloc (.cells #[.int .i64 0, .int .i64 0, .slice none 0 0, .int .i64 0] 24)).cell? ⟨w.heap.size, 1, none⟩ = some (.int .i64 n) := blk_cell h1 1
  have H2 := Aside0.mk h2
  have HB := Aside0.mk hb
  have HSZ := Aside0.mk hsz
  clear h1 h2 hb hsz
  go_enter Tryd.func21, Tryd.ntmps21
  go_wp2_with (go_at_call 34; (with_reducible refine HC.out.mono ?_); rintro e_ w2 ⟨⟨nv, rfl, hr⟩, hd⟩; have HR := Aside0.mk hr; have HD := Aside0.mk hd; have HT := Aside0.mk ((hd.block _ (by omega)).trans H2.out); clear hr hd HC; obtain ⟨A2, c2, rfl⟩ := Kd.R_slice HR.out; have y0_ := blk_cell HT.out 0; have y1_ := blk_cell HT.out 1; have y2_ := blk_cell HT.out 2; have y3_ := blk_cell HT.out 3; have z0_ := blk_frozen HT.out 0; have z1_ := blk_frozen HT.out 1; have z2_ := blk_frozen HT.out 2; have z3_ := blk_frozen HT.out 3)
  refine bodyPost_ret (results_ct rfl _ _ _ 24 #[.int .i64 r.1.1, .int .i64 r.1.2.1, .slice A2 r.1.2.2.1.length c2, .int .i64 r.1.2.2.2] (0, 0) _ rfl ?_ hu24 rfl (by kernel_rfl)) rfl ⟨⟨_, rfl, ?_⟩, ?_⟩
  · exact blk_put (blk_put (blk_put (blk_put HT.out 0 _ rfl) 1 _ rfl) 2 _ rfl) 3 _ rfl
  · have far : ∀ k, w.heap.size + 1 + 1 ≤ k → k ≠ w.heap.size + 1 := fun k hk => by omega
    exact Kd.R_mono (Kd.R_lower (Kd.R_far (p := ⟨w.heap.size + 1, 3, none⟩) (Kd.R_far (p := ⟨w.heap.size + 1, 2, none⟩) (Kd.R_far (p := ⟨w.heap.size + 1, 1, none⟩) (Kd.R_far (p := ⟨w.heap.size + 1, 0, none⟩) HR.out far _) far _) far _) far _) (by omega)) (fun k hk => by omega)
  · exact below_set (below_set (below_set (below_set (HB.out.trans (HD.out.mono (by omega))) (by simp)) (by simp)) (by simp)) (by simp)
end Go.Proofs.YtbnonnogkgbpiaaDoor.Forest
end
section
namespace Go.Proofs.YtbnonnogkgbpiaaDoor.Forest
open Go Go.RowKit Go.Maps Go.Proofs.YtbnonnogkgbpiaaDoor.MapI Go.Proofs.YtbnonnogkgbpiaaDoor.TreeKeys Go.Proofs.YtbnonnogkgbpiaaDoorW.PrintWords Go.Proofs.YtbnonnogkgbpiaaDoorW.PrintLast Go.Proofs.YtbnonnogkgbpiaaDoorW.PrintMore Go.Proofs.YtbnonnogkgbpiaaDoor.PT Go.Proofs.YtbnonnogkgbpiaaDoor.Says
set_option linter.unusedVariables false
set_option linter.unusedSimpArgs false
def rowsP (st : Int) : Nat → Int → Option Int
  | 0, a => some a
  | i + 1, a => if a * st > 1048576 then none else rowsP st i (a * st)
def rowsR (st : Int) (i : Nat) (a : Int) : Int × Bool := match rowsP st i a with
  | none => (0, false)
  | some r => (r, true)
theorem l0_rows (st n : Int) (h1 : 1 ≤ st) (h2 : st ≤ 256) (hn : n ≤ 16) : ∀ (d : Nat) (i a : Int), 0 ≤ i → i + d = n → 1 ≤ a → a ≤ 1048576 → tree_rowsOf.l0 (d + 1) st a n i = some (rowsR st d a) := by
  intro d
  induction d with
  | zero =>
    intro i a hi hd h3 h4
    rw [tree_rowsOf.l0, if_neg (by omega)]
    rfl
  | succ d ih =>
    intro i a hi hd h3 h4
    have hm : a * 1 ≤ a * st ∧ a * st ≤ 1048576 * 256 := ⟨Int.mul_le_mul_of_nonneg_left h1 (by omega), Int.mul_le_mul h4 h2 (by omega) (by omega)⟩
    have q1 : i < n := by omega
    have hw2 : wrap64 (i + 1) = i + 1 := by unfold wrap64; omega
    have e2 : rowsR st (d + 1) a = if a * st > 1048576 then (0, false) else rowsR st d (a * st) := by
      show (match (if a * st > 1048576 then none else rowsP st d (a * st)) with | none => ((0 : Int), false) | some r => (r, true)) = _
      by_cases c : a * st > 1048576
      · rw [if_pos c, if_pos c]
      · rw [if_neg c, if_neg c]
        rfl
    have hw : wrap64 (a * st) = a * st := by generalize a * st = m at *; unfold wrap64; omega
    rw [tree_rowsOf.l0, if_pos q1, hw, hw2, e2]
    by_cases c : a * st > 1048576
    · rw [if_pos c, if_pos c]
    · rw [if_neg c, if_neg c]
      exact ih (i + 1) (a * st) (by omega) (by omega) (by omega) (by omega)
theorem rows_is (st n : Int) (h1 : 1 ≤ st) (h2 : st ≤ 256) (h0 : 0 ≤ n) (hn : n ≤ 16) : tree_rowsOf.f (n.toNat + 1) st n = some (rowsR st n.toNat 1) := by
  unfold tree_rowsOf.f
  exact l0_rows st n h1 h2 hn n.toNat 0 1 (by omega) (by omega) (by omega) (by omega)
theorem rowsP_pow (st : Nat) (h1 : 1 ≤ st) : ∀ (d : Nat) (a r : Int), rowsP st d a = some r → a ≤ 1048576 → r = a * ((st ^ d : Nat) : Int) ∧ r ≤ 1048576
  | 0, a, r, h, ha => by cases h; simp [ha]
  | d + 1, a, r, h, ha => by
    unfold rowsP at h
    split at h
    · cases h
    · rename_i c
      obtain ⟨e1, e2⟩ := rowsP_pow st h1 d _ r h (by omega)
      refine ⟨?_, e2⟩
      rw [e1, Nat.pow_succ, Int.mul_assoc, Int.natCast_mul, Int.mul_comm (st : Int)]
theorem cost_pow (st : Nat) (h : 2 ≤ st) : ∀ d, cost st d + 3 ≤ 4 * st ^ d
  | 0 => by simp [cost]
  | d + 1 => by
    have ih := cost_pow st h d
    have h2 : st * (cost st d + 3) ≤ st * (4 * st ^ d) := Nat.mul_le_mul_left _ ih
    have e : st * (4 * st ^ d) = 4 * st ^ (d + 1) := by rw [Nat.pow_succ, Nat.mul_comm (st ^ d) st, ← Nat.mul_assoc, ← Nat.mul_assoc, Nat.mul_comm st 4]
    rw [e, Nat.mul_add] at h2
    show st * cost st d + st + 1 + 3 ≤ _
    omega
theorem cost_one : ∀ d, cost 1 d = 1 + 2 * d
  | 0 => rfl
  | d + 1 => by
    show 1 * cost 1 d + 1 + 1 = _
    rw [cost_one d]
    omega
theorem cost_rows (st n : Nat) (h1 : 1 ≤ st) (hn : n ≤ 16) (r : Int) (h : rowsP st n 1 = some r) : cost st n ≤ 100000000 := by
  obtain ⟨e, hr⟩ := rowsP_pow st h1 n 1 r h (by omega)
  rcases Nat.lt_or_ge st 2 with h2 | h2
  · have : st = 1 := by omega
    subst this
    rw [cost_one]
    omega
  · have := cost_pow st h2 n
    omega
def ofP (st n : Int) (ans : List Int) : (Int × Int × List S49 × Int) × Int :=
  if st < 1 ∨ st > 256 ∨ n < 0 ∨ n > 16 then ((0, 0, [], 0), 2) else
  if rowsP st n.toNat 1 = none then ((0, 0, [], 0), 4) else grown st.toNat n.toNat (said st ans)
theorem of_calls (st n : Int) (kf : Nat) (fi caps : Array Value) (f : List Int → Int) (w : World)
    (hf : ¬ (st < 1 ∨ st > 256 ∨ n < 0 ∨ n > 16) → ∀ wf p bl br be, FOk (cxOf n.toNat st.toNat kf fi caps w wf p bl br be) w f) :
    Calls Tryd.prog 34 #[.int .i64 st, .int .i64 n, .func (.func kf) fi caps] w fun e w' => TellsT w.heap.size (if st < 1 ∨ st > 256 ∨ n < 0 ∨ n > 16 then ((0, 0, [], 0), 2) else if rowsP st n.toNat 1 = none then ((0, 0, [], 0), 4) else grown st.toNat n.toNat f) e w' ∧ Below w.heap.size w w' := by
  by_cases c : st < 1 ∨ st > 256 ∨ n < 0 ∨ n > 16
  · rw [if_pos c]
    refine (of_arg st n _ (.inr ⟨kf, fi, caps, rfl⟩) c w).mono ?_
    rintro e w' ⟨rfl, hb⟩
    exact ⟨Told.none _ _ _, hb⟩
  · rw [if_neg c]
    have hrow := rows_is st n (by omega) (by omega) (by omega) (by omega)
    unfold rowsR at hrow
    rcases hq : rowsP st n.toNat 1 with _ | r
    · rw [hq] at hrow
      rw [if_pos rfl]
      refine (of_budget st n _ kf fi caps (by omega) (by omega) (by omega) (by omega) hrow w).mono ?_
      rintro e w' ⟨rfl, hb⟩
      exact ⟨Told.none _ _ _, hb⟩
    · rw [hq] at hrow
      rw [if_neg (by simp)]
      obtain ⟨s, rfl⟩ : ∃ s : Nat, st = (s : Int) := ⟨st.toNat, by omega⟩
      obtain ⟨m, rfl⟩ : ∃ m : Nat, n = (m : Int) := ⟨n.toNat, by omega⟩
      rw [Int.toNat_natCast] at hq
      rw [Int.toNat_natCast, Int.toNat_natCast]
      have hf' := hf c
      rw [Int.toNat_natCast, Int.toNat_natCast] at hf'
      refine (of_main s m _ kf fi caps r f w (by omega) (by omega) (by omega) hrow (cost_rows s m (by omega) (by omega) r hq) hf').mono ?_
      rintro e w' ⟨ht, hb⟩
      exact ⟨ht.tells, hb⟩
theorem law_of_calls (st n : Int) (A : Option Addr) (c : Nat) (ans : List Int) (w : World) (hr : Kd.C (Kd.int .u8) w A ans.length ans) (hc : ans.length ≤ c) (hu : ans.length ≤ 281474976710656) (hby : ∀ v ∈ ans, 0 ≤ v ∧ v ≤ 255) :
    Calls Tryd.prog 21 #[.agg #[.int .i64 st, .int .i64 n, .slice A ans.length c]] w fun e w' => TellsT w.heap.size (ofP st n ans) e w' ∧ Below w.heap.size w w' := by
  refine law_of st n A ans.length c w _ ?_
  obtain ⟨h1, h2, hb, hsz⟩ := two w (.cells #[.int .i64 st, .int .i64 n, .slice A ans.length c] 35) (.cells #[.int .i64 0, .int .i64 0, .slice none 0 0, .int .i64 0] 24)
  have h := of_calls st n 59 #[] #[.pointer (some ⟨w.heap.size, 0, none⟩)] (said st ans) ((w.alloc (.cells #[.int .i64 st, .int .i64 n, .slice A ans.length c] 35)).alloc (.cells #[.int .i64 0, .int .i64 0, .slice none 0 0, .int .i64 0] 24)) (fun hc' wf p bl br be => by
    obtain ⟨s, rfl⟩ : ∃ s : Nat, st = (s : Int) := ⟨st.toNat, by omega⟩
    obtain ⟨m, rfl⟩ : ∃ m : Nat, n = (m : Int) := ⟨n.toNat, by omega⟩
    rw [Int.toNat_natCast, Int.toNat_natCast]
    exact FOk.says _ wf w.heap.size s m A c ans h1 (Kd.C_below hr hb) hc (by omega) (by omega) hu hby p bl br be)
  rw [hsz] at h
  exact h
end Go.Proofs.YtbnonnogkgbpiaaDoor.Forest
end
section
namespace Go.Proofs.YtbnonnogkgbpiaaDoor.PT
open Go Go.RowKit Go.Maps Go.Proofs.YtbnonnogkgbpiaaDoor.MapI Go.Proofs.YtbnonnogkgbpiaaDoor.TreeKeys Go.Proofs.YtbnonnogkgbpiaaDoor.Forest Go.Proofs.YtbnonnogkgbpiaaDoorW.PrintWords Go.Proofs.YtbnonnogkgbpiaaDoorW.PrintLast Go.Proofs.YtbnonnogkgbpiaaDoorW.PrintMore
set_option linter.unusedVariables false
set_option linter.unusedSimpArgs false
def orderP (l : List Int) (n : Int) : Bool := decide ((l.length : Int) = n ∧ (∀ x ∈ l, 0 ≤ x ∧ x < n) ∧ l.Nodup)
def wfAll (l : List Int) : Bool := l.all fun x => (Lit.int .i64 x).wf
def tree_order.f (k : Nat) (l : List Int) (n : Int) : Option Bool := if wfAll l = true then (if l.length ≤ 281474976710656 then some (orderP l n) else none) else none
def MapJ (W : World) (k : TypeId) (b n s : Nat) (f : Lit → Bool) : Prop :=
  ∃ D : DataW Unit, W.ownsMap Tryd.prog k (plainElem Tryd.prog 3) b n D ∧ Maps.size D = s ∧ ∀ kl, Maps.has D kl = f kl
theorem MapJ.made (W : World) (k : TypeId) : MapJ (W.alloc (.map #[] 0)) k W.heap.size 0 0 (fun _ => false) :=
  ⟨.map [], World.ownsMap_made W _ _ _, rfl, fun _ => rfl⟩
theorem MapJ.put {W : World} {k t : TypeId} {b n s : Nat} {f : Lit → Bool} (h : MapJ W k b n s f) (K : Keyed Tryd.prog k) (ht : Tryd.prog.underlying t = some (.map k 3)) (hs : n < maxLen) {key : Value} {kl : Lit} (hkey : keyOf Tryd.prog k key = some kl) (hkl : WideAt.IsKeyLit kl) (v : Int) (hv : (Lit.int .i64 v).wf = true) :
    ∃ W', (Instr.mapUpdate t (.map (some b)) key (.int .i64 v)).run Tryd.prog W = .ok () W' ∧ MapJ W' k b (n + 1) (if f kl = true then s else s + 1) (fun x => x.sameKey kl || f x) ∧ W.grownBy W' (some b) := by
  obtain ⟨D, h, hsz, hh⟩ := h
  obtain ⟨W', hr, ho, ht'⟩ := h.store K ht hs hkey (plainElem_int Tryd.underlying3 hv)
  have h0 := hh kl
  refine ⟨W', hr, ⟨_, ho, ?_, ?_⟩, ht'.grown⟩
  · rw [size_put (h.tidy K), h0, hsz]
  · intro x
    by_cases e : x = kl
    · subst e
      show _ = (x.sameKey x || f x)
      rw [has_put_same h.isMap hkl, WideAt.sameKey_self hkl]
      rfl
    · show _ = (x.sameKey kl || f x)
      rw [has_put_other e, hh x, sameKey_ne e]
      rfl
structure Keys (l : List Int) (i : Nat) (f : Lit → Bool) (s : Nat) : Prop where
  has : ∀ x, f (.int .i64 x) = true ↔ x ∈ l.take i
  le : s ≤ i
  nd : s = i ↔ (l.take i).Nodup
theorem Keys.start (l : List Int) : Keys l 0 (fun _ => false) 0 := ⟨fun x => by simp, Nat.le_refl _, by simp⟩
theorem Keys.step {l : List Int} {i s : Nat} {f : Lit → Bool} (h : Keys l i f s) (hi : i < l.length) (x : Int) (hx : x = l[i]) :
    Keys l (i + 1) (fun y => y.sameKey (.int .i64 x) || f y) (if f (.int .i64 x) = true then s else s + 1) := by
  have ht : l.take (i + 1) = l.take i ++ [x] := by rw [hx]; exact List.take_succ_eq_append_getElem hi
  have hx0 := h.has x
  have self : (Lit.int .i64 x).sameKey (.int .i64 x) = true := WideAt.sameKey_self (show WideAt.IsKeyLit (.int .i64 x) from trivial)
  refine ⟨fun y => ?_, ?_, ?_⟩
  · rw [ht, List.mem_append, List.mem_singleton, Bool.or_eq_true]
    by_cases e : y = x
    · subst e
      simp [self]
    · rw [sameKey_ne (fun e2 => e (by injection e2)), h.has y]
      simp [e]
  · have := h.le
    split <;> omega
  · have := h.le
    have hn := h.nd
    rw [ht]
    by_cases c : f (.int .i64 x) = true
    · rw [if_pos c]
      have hm := hx0.1 c
      constructor
      · intro e
        omega
      · intro e
        exact absurd rfl ((List.nodup_append.1 e).2.2 x hm x (List.mem_singleton.2 rfl))
    · rw [if_neg c]
      have hm : x ∉ l.take i := fun e => c (hx0.2 e)
      constructor
      · intro e
        refine List.nodup_append.2 ⟨hn.1 (by omega), by simp, ?_⟩
        intro a ha b hb e2
        rw [List.mem_singleton.1 hb] at e2
        exact hm (e2 ▸ ha)
      · intro e
        have := hn.2 (List.nodup_append.1 e).1
        omega
set_option maxHeartbeats 8000000 in
set_option maxRecDepth 100000 in
theorem tree_order.calls (k : Nat) (A0 : Option Addr) (c0 : Nat) (l0 : List Int) (a1 : Int) (r : Bool) (w : World) (hr0 : Kd.C (Kd.int .i64) w A0 l0.length l0) (hc0 : l0.length ≤ c0) (h : tree_order.f k l0 a1 = some r) :
    Calls Tryd.prog 74 #[.slice A0 l0.length c0, .int .i64 a1] w fun e w' => e = .returned (.bool r) ∧ Below w.heap.size w w' := by
  unfold tree_order.f at h
  by_cases hwf : wfAll l0 = true
  case neg => rw [if_neg hwf] at h; cases h
  by_cases hlen : l0.length ≤ 281474976710656
  case neg => rw [if_pos hwf, if_neg hlen] at h; cases h
  rw [if_pos hwf, if_pos hlen] at h
  obtain rfl : orderP l0 a1 = r := Option.some.inj h
  have HR := Aside0.mk hr0
  have HL := Aside0.mk hlen
  have HW := Aside0.mk (show ∀ x ∈ l0, (Lit.int .i64 x).wf = true from fun x hx => (List.all_eq_true.1 hwf) x hx)
  have hM := MapJ.made w 3
  have HM := Aside0.mk hM
  have HB := Aside0.mk (below_alloc (Below.refl w.heap.size w) (.map #[] 0))
  have hmk := @run_makeMap Tryd.prog
  clear hr0 hc0 h hwf hlen hM
  go_enter Tryd.func74, Tryd.ntmps74
  go_wp2_with fail
  go_loopg [6, 7, 12] l0.length (fun g_ s6 s7 s12 wr => ∃ (x : Int) (f : Lit → Bool) (s : Nat), s12 = .int .i64 x ∧ Aside0 (0 ≤ x ∧ (g_ : Int) = l0.length - x) ∧ Aside0 (MapJ wr 3 w.heap.size x.toNat s f) ∧ Aside0 (Keys l0 x.toNat f s) ∧ Aside0 (Below w.heap.size w wr))
  case atStart => exact ⟨0, _, 0, rfl, ⟨by omega, by omega⟩, HM, ⟨Keys.start l0⟩, HB⟩
  case round =>
    obtain ⟨x, f, s, rfl, HX, HM, HK, HB⟩ := hrel
    by_cases q : x < (l0.length : Int)
    · have p0 : 0 ≤ x := HX.out.1
      obtain ⟨ad, rfl, k0_⟩ := Kd.at_int (Kd.C_below HR.out HB.out) x p0 q
      have w1_ : wrap64 (x + 1) = x + 1 := by have := HL.out; unfold wrap64; omega
      have hlt : x.toNat < l0.length := by omega
      have hrd : rd l0 x = l0[x.toNat] := by
        unfold rd
        rw [List.getD_eq_getElem?_getD, List.getElem?_eq_getElem hlt]
        rfl
      have hkw : (Lit.int .i64 (rd l0 x)).wf = true := by rw [hrd]; exact HW.out _ (List.getElem_mem hlt)
      have hvw : (Lit.int .i64 x).wf = true := by
        have := HL.out
        simp [Lit.wf, IntKind.min, IntKind.max, IntKind.bits, IntKind.signed]
        omega
      have hK2 := HK.out.step hlt (rd l0 x) hrd
      have HK2 := Aside0.mk hK2
      have HV := Aside0.mk (MapJ.put HM.out (t := 107) keyI Tryd.underlying107 (by have := HL.out; have hq : (281474976710656 : Nat) < maxLen := (by decide); omega) (keyOf_int_mk Tryd.underlying3 hkw) (kl := .int .i64 (rd l0 x)) trivial x hvw)
      clear hK2 hvw hrd
      generalize rd l0 x = k at *
      go_wp2_with (first
        | (at_mapUpdate; refine wp_put rfl _ _ _ _ rfl rfl rfl rfl HV.out ?_; rintro w1 ⟨hm1, hg1⟩; have H1 := Aside0.mk hm1; have HB1 := Aside0.mk (HB.out.grown hg1 HB.out.size (fun k hk => by cases hk; exact Nat.le_refl _)); clear k0_ hm1 hg1))
      go_roundg (l0.length - (x + 1).toNat)
      case measure => go_light; have := HX.out; omega
      case rel =>
        go_light
        have e1 : (x + 1).toNat = x.toNat + 1 := by omega
        exact ⟨x + 1, _, _, by simp [w1_], ⟨by omega, by have := HX.out; omega⟩, ⟨by rw [e1]; exact H1.out⟩, ⟨by rw [e1]; exact HK2.out⟩, HB1⟩
    · have hxe : x.toNat ≥ l0.length := by omega
      have hKl : ∀ y, f (.int .i64 y) = true ↔ y ∈ l0 := fun y => by rw [HK.out.has y, List.take_of_length_le hxe]
      have hnd : ((l0.length : Int) = a1) → ((s : Int) = a1 ↔ l0.Nodup) := by
        intro e
        have h1 := HK.out.nd
        have h3 := HK.out.le
        rw [List.take_of_length_le hxe] at h1
        have h4 := HX.out
        exact ⟨fun e2 => h1.1 (by omega), fun e2 => by have := h1.2 e2; omega⟩
      obtain ⟨D, hown, hsz, hh⟩ := HM.out
      have HD := Aside0.mk hown
      have HKL := Aside0.mk (fun y => show Maps.has D (.int .i64 y) = true ↔ y ∈ l0 from by rw [hh]; exact hKl y)
      have HS := Aside0.mk hsz
      have HN := Aside0.mk hnd
      clear hKl hown hsz hh hnd
      go_wp2_with (first
        | (at_range; refine wpList_range_own _ rfl _ 107 rfl 3 3 keyI Tryd.underlying107 _ w.heap.size x.toNat D rfl HD.out ?_; intro w0 hrg0 hg0 hs0)
        | go_in)
      have HB0 := Aside0.mk (HB.out.grown hg0 HB.out.size (fun k hk => by cases hk))
      have HRS := Aside0.mk HB.out.size
      have hst : ∀ kl, Maps.has D kl = true → Maps.has D kl = true := fun _ h => h
      have HST := Aside0.mk hst
      have hin : ∀ y, y ∈ l0 → Maps.has D (.int .i64 y) = true ∨ (0 ≤ y ∧ y < a1) := fun y hy => .inl ((HKL.out y).2 hy)
      have HIN := Aside0.mk hin
      clear hst hin HM HB HK hg0 hs0
      generalize hr0e : wr.heap.size = r0 at *
      go_loopw [8] (fun _ wq => ∃ (left : Lit → Bool) (cnt : Nat), wq.ranges Tryd.prog 3 (plainElem Tryd.prog 3) w.heap.size r0 x.toNat D left cnt ∧ Aside0 (∀ kl, left kl = true → Maps.has D kl = true) ∧ Aside0 (∀ y, y ∈ l0 → left (.int .i64 y) = true ∨ (0 ≤ y ∧ y < a1)) ∧ Aside0 (Below w.heap.size w wq))
        (fun _ wq => wq.rangeLeft w.heap.size r0)
      case atStart => exact ⟨_, _, hrg0, HST, HIN, HB0⟩
      case round =>
        obtain ⟨left, cnt, hrg, HST, HIN, HB⟩ := hrel
        go_wp2_with (first
          | (at_next; refine wpList_next_ranges_ii _ rfl _ rfl 3 3 .i64 .i64 keyI Tryd.underlying3 Tryd.underlying3 w.heap.size r0 x.toNat D left cnt rfl hrg ?_ ?_)
          | go_in)
        · intro _ hl0
          have hlen := hrg.owns.len (t := 107) Tryd.underlying107 3
          rw [HS.out] at hlen
          have hall : ∀ y, y ∈ l0 → 0 ≤ y ∧ y < a1 := fun y hy => by
            rcases HIN.out y hy with h | h
            · rw [hl0] at h
              cases h
            · exact h
          have hres : orderP l0 a1 = (((l0.length : Int) == a1) && ((s : Int) == a1)) := by
            unfold orderP
            by_cases c : (l0.length : Int) = a1
            · have h2 := HN.out c
              by_cases c2 : (s : Int) = a1
              · rw [decide_eq_true ⟨c, hall, h2.1 c2⟩, beq_iff_eq.2 c, beq_iff_eq.2 c2]
                rfl
              · rw [decide_eq_false (fun h => c2 (h2.2 h.2.2)), beq_iff_eq.2 c, beq_eq_false_iff_ne.2 c2]
                rfl
            · rw [decide_eq_false (fun h => c h.1), beq_eq_false_iff_ne.2 c]
              rfl
          have HRES := Aside0.mk hres
          clear hall hres HIN HST hrg0
          by_cases c : ((l0.length : Int) == a1) = true
          · by_cases c2 : ((s : Int) == a1) = true
            · go_wp2
              go_ret
              exact ⟨by rw [HRES.out, c, c2]; rfl, HB.out⟩
            · have c2 := Bool.eq_false_iff.2 c2
              go_wp2
              go_ret
              exact ⟨by rw [HRES.out, c, c2]; rfl, HB.out⟩
          · have c := Bool.eq_false_iff.2 c
            go_wp2
            go_ret
            exact ⟨by rw [HRES.out, c]; rfl, HB.out⟩
        · intro y cv w1 cnt1 hwx hwc hlx hat hrg1 hlt hg1 hs1 hen
          have HB1 := Aside0.mk (HB.out.grown hg1 HB.out.size (fun k hk => by cases hk; exact HRS.out))
          have HY := Aside0.mk ((HKL.out y).1 (HST.out _ hlx))
          clear hg1 hs1 hat hwc
          by_cases c1 : y < 0
          · go_wp2
            go_ret
            exact ⟨by rw [show orderP l0 a1 = false from decide_eq_false (fun h => by have := h.2.1 y HY.out; omega)]; rfl, HB1.out⟩
          by_cases c2 : y ≥ a1
          · go_wp2
            go_ret
            exact ⟨by rw [show orderP l0 a1 = false from decide_eq_false (fun h => by have := h.2.1 y HY.out; omega)]; rfl, HB1.out⟩
          · go_wp2
            go_roundw
            case measure => rw [hrg1.left_eq, hrg.left_eq]; exact hlt
            case rel =>
              refine ⟨_, cnt1, hrg1, ⟨fun kl h => HST.out kl (by simp at h; exact h.1)⟩, ⟨fun z hz => ?_⟩, HB1⟩
              rcases HIN.out z hz with h | h
              · by_cases e : z = y
                · subst e
                  exact .inr ⟨by omega, by omega⟩
                · refine .inl ?_
                  rw [h, sameKey_ne (fun e2 => e (by injection e2))]
                  rfl
              · exact .inr h
end Go.Proofs.YtbnonnogkgbpiaaDoor.PT
end
