/- What the row of this claim leans on, part 6. -/
import Derived.Test.YtbnonnogkgbpiaaDoorKBack5
section
namespace Go.Proofs.YtbnonnogkgbpiaaDoor.Reader
open Go Go.RowKit Go.Proofs.YtbnonnogkgbpiaaDoorW.PrintWords Go.Proofs.YtbnonnogkgbpiaaDoorW.PrintLast Go.Proofs.YtbnonnogkgbpiaaDoorW.PrintMore
set_option linter.unusedVariables false
set_option linter.unusedSimpArgs false
def T57_2 : Bool × List (List Nat × List Nat) := (true, [([], []), ([0], [0]), ([1], [1]), ([2], [2]), ([3], [3]), ([4], [4]), ([5, 4], [4, 5]), ([6, 4], [4, 6]), ([7, 4], [4, 7]), ([4], [4]), ([9, 4], [4, 9]), ([10, 4], [4, 10]), ([11, 4], [4, 11]), ([12, 4], [4, 12]), ([8, 13, 4], [4, 8, 13]), ([4, 14], [4, 14]), ([15, 4], [15]), ([16], [16]), ([17, 16], [16, 17]), ([18, 16], [16, 18]), ([19, 16], [16, 19]), ([16], [16]), ([21, 16], [16, 21]), ([22, 16], [16, 22]), ([23, 16], [16, 23]), ([20, 24, 16], [16, 20, 24]), ([25, 16], [16, 25]), ([16, 26], [16, 26]), ([27, 16], [27]), ([28], [28]), ([29, 28], [28, 29]), ([30, 28], [28, 30]), ([31, 28], [28, 31]), ([28], [28]), ([33, 28], [28, 33]), ([34, 28], [28, 34]), ([35, 28], [28, 35]), ([32, 36, 28], [28, 32, 36]), ([37, 28], [28, 37]), ([28, 38], [28, 38]), ([39, 28], [39]), ([40], [40]), ([41, 40], [40, 41]), ([42, 40], [40, 42]), ([43, 40], [40, 43]), ([40], [40]), ([44, 45, 40], [40, 44, 45]), ([46, 40], [40, 46]), ([40, 47], [40, 47]), ([48, 40], [48]), ([49], [49]), ([50, 49], [49, 50]), ([51, 49, 49], [49, 51]), ([52], [52]), ([53, 52], [52, 53]), ([54, 52], [52, 54]), ([55, 52], [52, 55]), ([52], [52]), ([56, 57, 52], [52, 56, 57]), ([52, 58, 49], [49, 52, 58]), ([49, 59], [49, 59])])
def B57_2 : List Nat := [0, 1, 3, 7, 15, 31, 63, 127, 255, 31, 543, 1567, 3615, 7711, 16383, 32767, 65535, 131071, 262143, 524287, 1048575, 131071, 2228223, 6422527, 14811135, 33554431, 67108863, 134217727, 268435455, 536870911, 1073741823, 2147483647, 4294967295, 536870911, 9126805503, 26306674687, 60666413055, 137438953471, 274877906943, 549755813887, 1099511627775, 2199023255551, 4398046511103, 8796093022207, 17592186044415, 2199023255551, 70368744177663, 140737488355327, 281474976710655, 562949953421311, 1125899906842623, 2251799813685247, 4503599627370495, 9007199254740991, 18014398509481983, 36028797018963967, 72057594037927935, 9007199254740991, 288230376151711743, 576460752303423487, 1152921504606846975]
theorem tab57_2 : rtab .any (opsOf Tryd.f57 2) = T57_2 := by kernel_rfl
theorem bits57_2 : waitsOk T57_2.2 B57_2 = true := by kernel_rfl
def T57_3 : Bool × List (List Nat × List Nat) := (true, [([], []), ([0], [0]), ([], []), ([2], [2]), ([3], [3]), ([4], [4]), ([], []), ([6], [6]), ([7], [7]), ([8], [8]), ([5, 9], [5, 9]), ([10], [10]), ([11], [11]), ([1, 12], [1, 12]), ([13, 0, 1, 2, 3, 4, 5, 6, 7, 8, 9, 10, 11, 12, 13], [0, 13])])
def B57_3 : List Nat := [0, 1, 0, 4, 12, 28, 0, 64, 192, 448, 1020, 2044, 4092, 8191, 16383]
theorem tab57_3 : rtab .any (opsOf Tryd.f57 3) = T57_3 := by kernel_rfl
theorem bits57_3 : waitsOk T57_3.2 B57_3 = true := by kernel_rfl
theorem nstep (n d k : Nat) (h : n < 10 ^ k) (hk : k < 9) (hd : d ≤ 9) : 10 * n + d < 10 ^ (k + 1) ∧ n ≤ 100000000 := by
  have h1 : 10 ^ k ≤ 10 ^ 8 := Nat.pow_le_pow_right (by decide) (by omega)
  rw [Nat.pow_succ]
  omega
set_option maxHeartbeats 8000000 in
set_option maxRecDepth 100000 in
theorem number_off (s : ByteArray) (r b : Nat) (w : World) (h : RdAt w r s b false) (ha : b ≤ s.size) (hs : s.size ≤ 1048576) :
    Calls Tryd.prog 57 #[.pointer (some ⟨r, 0, none⟩)] w fun e w' => e = .returned (.int .i64 0) ∧ RdAt w' r s b false ∧ w.grownBy w' (some r) := by
  have HH := Aside0.mk h
  obtain ⟨⟨c0, c1, c2⟩, z1, z2⟩ := h.cells
  clear h ha hs
  go_enter Tryd.func57, Tryd.ntmps57
  go_wp2
  go_loopg [4] 1 (fun g_ s4 wq => s4 = .int .i64 0 ∧ Aside0 (wq = w))
  case atStart => exact ⟨rfl, ⟨rfl⟩⟩
  case round =>
    obtain ⟨rfl, HW⟩ := hrel
    obtain rfl := HW.out
    go_upto_region 2 with fail
    refine start_ (n := 61) (S := fun w' => w'.cell? ⟨r, 0, none⟩ = some (.string s) ∧ w'.cell? ⟨r, 1, none⟩ = some (.int .i64 (b : Int)) ∧ w'.cell? ⟨r, 2, none⟩ = some (.bool false)) (ds := []) (pfx 0 61) (by kernel_rfl) rfl (by kernel_rfl) ⟨c0, c1, c2⟩ (fun hHeld => ?_)
    refine with_tabW tab57_2 bits57_2 (fun HT_ HW_ => ?_)
    refine pure_ (i := 0) (N := (some 9)) (v := ?_) (a' := ?_) (pfx 1 61) rfl rfl (any_of HT_.out (by kernel_rfl)) (fun _ _ _ h => h) (Or.inl ⟨by rfl, ?_⟩) ?_ ?_
    rotate_left
    · intro w'
      go_simp
      with_reducible rfl
    rotate_left
    · simp only [Act.put, List.setIfInBounds_toArray, List.set_cons_zero, List.set_cons_succ, i64_w, i32_w]
      rfl
    refine pure_ (i := 1) (N := (some 10)) (v := ?_) (a' := ?_) (pfx 2 61) rfl rfl (any_of HT_.out (by kernel_rfl)) (fun _ _ _ h => h) (Or.inl ⟨by rfl, ?_⟩) ?_ ?_
    rotate_left
    · intro w'
      go_simp
      with_reducible rfl
    rotate_left
    · simp only [Act.put, List.setIfInBounds_toArray, List.set_cons_zero, List.set_cons_succ, i64_w, i32_w]
      rfl
    refine pure_ (i := 2) (N := (some 11)) (v := ?_) (a' := ?_) (pfx 3 61) rfl rfl (any_of HT_.out (by kernel_rfl)) (fun _ _ _ h => h) (Or.inl ⟨by rfl, ?_⟩) ?_ ?_
    rotate_left
    · intro w'
      go_simp
      with_reducible rfl
    rotate_left
    · simp only [Act.put, List.setIfInBounds_toArray, List.set_cons_zero, List.set_cons_succ, i64_w, i32_w]
      rfl
    refine take_ (i := 3) (N := (some 12)) (v := ?_) (a' := ?_) (pfx 4 61) rfl rfl (take_ofW HT_.out HW_.out (by kernel_rfl)) (fun _ _ _ h => h) (Or.inl ⟨by rfl, ?_⟩) hHeld ?_ ?_
    rotate_left
    · rintro w' ⟨s0, s1, s2⟩
      go_simp
      with_reducible rfl
    rotate_left
    · simp only [Act.put, List.setIfInBounds_toArray, List.set_cons_zero, List.set_cons_succ, i64_w, i32_w]
      rfl
    refine pure_ (i := 4) (N := (some 13)) (v := ?_) (a' := ?_) (pfx 5 61) rfl rfl (any_of HT_.out (by kernel_rfl)) (fun _ _ _ h => h) (Or.inl ⟨by rfl, ?_⟩) ?_ ?_
    rotate_left
    · intro w'
      go_simp
      with_reducible rfl
    rotate_left
    · simp only [Act.put, List.setIfInBounds_toArray, List.set_cons_zero, List.set_cons_succ, i64_w, i32_w]
      rfl
    refine pure_ (i := 5) (N := (some 14)) (v := undef) (a' := ?_) (pfx 6 61) rfl rfl (any_of HT_.out (by kernel_rfl)) (fun _ _ _ h => h) (Or.inr ⟨by rfl, rfl⟩) ?_ ?_
    rotate_left
    · simp only [Act.put, List.setIfInBounds_toArray, List.set_cons_zero, List.set_cons_succ, i64_w, i32_w]
      rfl
    refine pure_ (i := 6) (N := (some 15)) (v := undef) (a' := ?_) (pfx 7 61) rfl rfl (any_of HT_.out (by kernel_rfl)) (fun _ _ _ h => h) (Or.inr ⟨by rfl, rfl⟩) ?_ ?_
    rotate_left
    · simp only [Act.put, List.setIfInBounds_toArray, List.set_cons_zero, List.set_cons_succ, i64_w, i32_w]
      rfl
    refine pure_ (i := 7) (N := (some 16)) (v := undef) (a' := ?_) (pfx 8 61) rfl rfl (any_of HT_.out (by kernel_rfl)) (fun _ _ _ h => h) (Or.inr ⟨by rfl, rfl⟩) ?_ ?_
    rotate_left
    · simp only [Act.put, List.setIfInBounds_toArray, List.set_cons_zero, List.set_cons_succ, i64_w, i32_w]
      rfl
    refine pure_ (i := 8) (N := (some 17)) (v := undef) (a' := ?_) (pfx 9 61) rfl rfl (any_of HT_.out (by kernel_rfl)) (fun _ _ _ h => h) (Or.inr ⟨by rfl, rfl⟩) ?_ ?_
    rotate_left
    · simp only [Act.put, List.setIfInBounds_toArray, List.set_cons_zero, List.set_cons_succ, i64_w, i32_w]
      rfl
    refine pure_ (i := 9) (N := (some 18)) (v := undef) (a' := ?_) (pfx 10 61) rfl rfl (any_of HT_.out (by kernel_rfl)) (fun _ _ _ h => h) (Or.inr ⟨by rfl, rfl⟩) ?_ ?_
    rotate_left
    · simp only [Act.put, List.setIfInBounds_toArray, List.set_cons_zero, List.set_cons_succ, i64_w, i32_w]
      rfl
    refine pure_ (i := 10) (N := (some 19)) (v := undef) (a' := ?_) (pfx 11 61) rfl rfl (any_of HT_.out (by kernel_rfl)) (fun _ _ _ h => h) (Or.inr ⟨by rfl, rfl⟩) ?_ ?_
    rotate_left
    · simp only [Act.put, List.setIfInBounds_toArray, List.set_cons_zero, List.set_cons_succ, i64_w, i32_w]
      rfl
    refine pure_ (i := 11) (N := (some 20)) (v := undef) (a' := ?_) (pfx 12 61) rfl rfl (any_of HT_.out (by kernel_rfl)) (fun _ _ _ h => h) (Or.inr ⟨by rfl, rfl⟩) ?_ ?_
    rotate_left
    · simp only [Act.put, List.setIfInBounds_toArray, List.set_cons_zero, List.set_cons_succ, i64_w, i32_w]
      rfl
    refine pure_ (i := 12) (N := (some 21)) (v := undef) (a' := ?_) (pfx 13 61) rfl rfl (any_of HT_.out (by kernel_rfl)) (fun _ _ _ h => h) (Or.inr ⟨by rfl, rfl⟩) ?_ ?_
    rotate_left
    · simp only [Act.put, List.setIfInBounds_toArray, List.set_cons_zero, List.set_cons_succ, i64_w, i32_w]
      rfl
    refine pure_ (i := 13) (N := (some 22)) (v := undef) (a' := ?_) (pfx 14 61) rfl rfl (any_of HT_.out (by kernel_rfl)) (fun _ _ _ h => h) (Or.inr ⟨by rfl, rfl⟩) ?_ ?_
    rotate_left
    · simp only [Act.put, List.setIfInBounds_toArray, List.set_cons_zero, List.set_cons_succ, i64_w, i32_w]
      rfl
    refine pure_ (i := 14) (N := (some 23)) (v := undef) (a' := ?_) (pfx 15 61) rfl rfl (any_of HT_.out (by kernel_rfl)) (fun _ _ _ h => h) (Or.inr ⟨by rfl, rfl⟩) ?_ ?_
    rotate_left
    · simp only [Act.put, List.setIfInBounds_toArray, List.set_cons_zero, List.set_cons_succ, i64_w, i32_w]
      rfl
    refine pure_ (i := 15) (N := (some 24)) (v := ?_) (a' := ?_) (pfx 16 61) rfl rfl (any_of HT_.out (by kernel_rfl)) (fun _ _ _ h => h) (Or.inl ⟨by rfl, ?_⟩) ?_ ?_
    rotate_left
    · intro w'
      go_simp
      with_reducible rfl
    rotate_left
    · simp only [Act.put, List.setIfInBounds_toArray, List.set_cons_zero, List.set_cons_succ, i64_w, i32_w]
      rfl
    refine pure_ (i := 16) (N := (some 25)) (v := ?_) (a' := ?_) (pfx 17 61) rfl rfl (any_of HT_.out (by kernel_rfl)) (fun _ _ _ h => h) (Or.inl ⟨by rfl, ?_⟩) ?_ ?_
    rotate_left
    · intro w'
      go_simp
      with_reducible rfl
    rotate_left
    · simp only [Act.put, List.setIfInBounds_toArray, List.set_cons_zero, List.set_cons_succ, i64_w, i32_w]
      rfl
    refine pure_ (i := 17) (N := (some 26)) (v := undef) (a' := ?_) (pfx 18 61) rfl rfl (any_of HT_.out (by kernel_rfl)) (fun _ _ _ h => h) (Or.inr ⟨by rfl, rfl⟩) ?_ ?_
    rotate_left
    · simp only [Act.put, List.setIfInBounds_toArray, List.set_cons_zero, List.set_cons_succ, i64_w, i32_w]
      rfl
    refine pure_ (i := 18) (N := (some 27)) (v := undef) (a' := ?_) (pfx 19 61) rfl rfl (any_of HT_.out (by kernel_rfl)) (fun _ _ _ h => h) (Or.inr ⟨by rfl, rfl⟩) ?_ ?_
    rotate_left
    · simp only [Act.put, List.setIfInBounds_toArray, List.set_cons_zero, List.set_cons_succ, i64_w, i32_w]
      rfl
    refine pure_ (i := 19) (N := (some 28)) (v := undef) (a' := ?_) (pfx 20 61) rfl rfl (any_of HT_.out (by kernel_rfl)) (fun _ _ _ h => h) (Or.inr ⟨by rfl, rfl⟩) ?_ ?_
    rotate_left
    · simp only [Act.put, List.setIfInBounds_toArray, List.set_cons_zero, List.set_cons_succ, i64_w, i32_w]
      rfl
    refine pure_ (i := 20) (N := (some 29)) (v := undef) (a' := ?_) (pfx 21 61) rfl rfl (any_of HT_.out (by kernel_rfl)) (fun _ _ _ h => h) (Or.inr ⟨by rfl, rfl⟩) ?_ ?_
    rotate_left
    · simp only [Act.put, List.setIfInBounds_toArray, List.set_cons_zero, List.set_cons_succ, i64_w, i32_w]
      rfl
    refine pure_ (i := 21) (N := (some 30)) (v := undef) (a' := ?_) (pfx 22 61) rfl rfl (any_of HT_.out (by kernel_rfl)) (fun _ _ _ h => h) (Or.inr ⟨by rfl, rfl⟩) ?_ ?_
    rotate_left
    · simp only [Act.put, List.setIfInBounds_toArray, List.set_cons_zero, List.set_cons_succ, i64_w, i32_w]
      rfl
    refine pure_ (i := 22) (N := (some 31)) (v := undef) (a' := ?_) (pfx 23 61) rfl rfl (any_of HT_.out (by kernel_rfl)) (fun _ _ _ h => h) (Or.inr ⟨by rfl, rfl⟩) ?_ ?_
    rotate_left
    · simp only [Act.put, List.setIfInBounds_toArray, List.set_cons_zero, List.set_cons_succ, i64_w, i32_w]
      rfl
    refine pure_ (i := 23) (N := (some 32)) (v := undef) (a' := ?_) (pfx 24 61) rfl rfl (any_of HT_.out (by kernel_rfl)) (fun _ _ _ h => h) (Or.inr ⟨by rfl, rfl⟩) ?_ ?_
    rotate_left
    · simp only [Act.put, List.setIfInBounds_toArray, List.set_cons_zero, List.set_cons_succ, i64_w, i32_w]
      rfl
    refine pure_ (i := 24) (N := (some 33)) (v := undef) (a' := ?_) (pfx 25 61) rfl rfl (any_of HT_.out (by kernel_rfl)) (fun _ _ _ h => h) (Or.inr ⟨by rfl, rfl⟩) ?_ ?_
    rotate_left
    · simp only [Act.put, List.setIfInBounds_toArray, List.set_cons_zero, List.set_cons_succ, i64_w, i32_w]
      rfl
    refine pure_ (i := 25) (N := (some 34)) (v := undef) (a' := ?_) (pfx 26 61) rfl rfl (any_of HT_.out (by kernel_rfl)) (fun _ _ _ h => h) (Or.inr ⟨by rfl, rfl⟩) ?_ ?_
    rotate_left
    · simp only [Act.put, List.setIfInBounds_toArray, List.set_cons_zero, List.set_cons_succ, i64_w, i32_w]
      rfl
    refine pure_ (i := 26) (N := (some 35)) (v := undef) (a' := ?_) (pfx 27 61) rfl rfl (any_of HT_.out (by kernel_rfl)) (fun _ _ _ h => h) (Or.inr ⟨by rfl, rfl⟩) ?_ ?_
    rotate_left
    · simp only [Act.put, List.setIfInBounds_toArray, List.set_cons_zero, List.set_cons_succ, i64_w, i32_w]
      rfl
    refine pure_ (i := 27) (N := (some 36)) (v := ?_) (a' := ?_) (pfx 28 61) rfl rfl (any_of HT_.out (by kernel_rfl)) (fun _ _ _ h => h) (Or.inl ⟨by rfl, ?_⟩) ?_ ?_
    rotate_left
    · intro w'
      go_simp
      with_reducible rfl
    rotate_left
    · simp only [Act.put, List.setIfInBounds_toArray, List.set_cons_zero, List.set_cons_succ, i64_w, i32_w]
      rfl
    refine pure_ (i := 28) (N := (some 37)) (v := ?_) (a' := ?_) (pfx 29 61) rfl rfl (any_of HT_.out (by kernel_rfl)) (fun _ _ _ h => h) (Or.inl ⟨by rfl, ?_⟩) ?_ ?_
    rotate_left
    · intro w'
      go_simp
      with_reducible rfl
    rotate_left
    · simp only [Act.put, List.setIfInBounds_toArray, List.set_cons_zero, List.set_cons_succ, i64_w, i32_w]
      rfl
    refine pure_ (i := 29) (N := (some 38)) (v := undef) (a' := ?_) (pfx 30 61) rfl rfl (any_of HT_.out (by kernel_rfl)) (fun _ _ _ h => h) (Or.inr ⟨by rfl, rfl⟩) ?_ ?_
    rotate_left
    · simp only [Act.put, List.setIfInBounds_toArray, List.set_cons_zero, List.set_cons_succ, i64_w, i32_w]
      rfl
    refine pure_ (i := 30) (N := (some 39)) (v := undef) (a' := ?_) (pfx 31 61) rfl rfl (any_of HT_.out (by kernel_rfl)) (fun _ _ _ h => h) (Or.inr ⟨by rfl, rfl⟩) ?_ ?_
    rotate_left
    · simp only [Act.put, List.setIfInBounds_toArray, List.set_cons_zero, List.set_cons_succ, i64_w, i32_w]
      rfl
    refine pure_ (i := 31) (N := (some 40)) (v := undef) (a' := ?_) (pfx 32 61) rfl rfl (any_of HT_.out (by kernel_rfl)) (fun _ _ _ h => h) (Or.inr ⟨by rfl, rfl⟩) ?_ ?_
    rotate_left
    · simp only [Act.put, List.setIfInBounds_toArray, List.set_cons_zero, List.set_cons_succ, i64_w, i32_w]
      rfl
    refine pure_ (i := 32) (N := (some 41)) (v := undef) (a' := ?_) (pfx 33 61) rfl rfl (any_of HT_.out (by kernel_rfl)) (fun _ _ _ h => h) (Or.inr ⟨by rfl, rfl⟩) ?_ ?_
    rotate_left
    · simp only [Act.put, List.setIfInBounds_toArray, List.set_cons_zero, List.set_cons_succ, i64_w, i32_w]
      rfl
    refine pure_ (i := 33) (N := (some 42)) (v := undef) (a' := ?_) (pfx 34 61) rfl rfl (any_of HT_.out (by kernel_rfl)) (fun _ _ _ h => h) (Or.inr ⟨by rfl, rfl⟩) ?_ ?_
    rotate_left
    · simp only [Act.put, List.setIfInBounds_toArray, List.set_cons_zero, List.set_cons_succ, i64_w, i32_w]
      rfl
    refine pure_ (i := 34) (N := (some 43)) (v := undef) (a' := ?_) (pfx 35 61) rfl rfl (any_of HT_.out (by kernel_rfl)) (fun _ _ _ h => h) (Or.inr ⟨by rfl, rfl⟩) ?_ ?_
    rotate_left
    · simp only [Act.put, List.setIfInBounds_toArray, List.set_cons_zero, List.set_cons_succ, i64_w, i32_w]
      rfl
    refine pure_ (i := 35) (N := (some 44)) (v := undef) (a' := ?_) (pfx 36 61) rfl rfl (any_of HT_.out (by kernel_rfl)) (fun _ _ _ h => h) (Or.inr ⟨by rfl, rfl⟩) ?_ ?_
    rotate_left
    · simp only [Act.put, List.setIfInBounds_toArray, List.set_cons_zero, List.set_cons_succ, i64_w, i32_w]
      rfl
    refine pure_ (i := 36) (N := (some 45)) (v := undef) (a' := ?_) (pfx 37 61) rfl rfl (any_of HT_.out (by kernel_rfl)) (fun _ _ _ h => h) (Or.inr ⟨by rfl, rfl⟩) ?_ ?_
    rotate_left
    · simp only [Act.put, List.setIfInBounds_toArray, List.set_cons_zero, List.set_cons_succ, i64_w, i32_w]
      rfl
    refine pure_ (i := 37) (N := (some 46)) (v := undef) (a' := ?_) (pfx 38 61) rfl rfl (any_of HT_.out (by kernel_rfl)) (fun _ _ _ h => h) (Or.inr ⟨by rfl, rfl⟩) ?_ ?_
    rotate_left
    · simp only [Act.put, List.setIfInBounds_toArray, List.set_cons_zero, List.set_cons_succ, i64_w, i32_w]
      rfl
    refine pure_ (i := 38) (N := (some 47)) (v := undef) (a' := ?_) (pfx 39 61) rfl rfl (any_of HT_.out (by kernel_rfl)) (fun _ _ _ h => h) (Or.inr ⟨by rfl, rfl⟩) ?_ ?_
    rotate_left
    · simp only [Act.put, List.setIfInBounds_toArray, List.set_cons_zero, List.set_cons_succ, i64_w, i32_w]
      rfl
    refine pure_ (i := 39) (N := (some 48)) (v := ?_) (a' := ?_) (pfx 40 61) rfl rfl (any_of HT_.out (by kernel_rfl)) (fun _ _ _ h => h) (Or.inl ⟨by rfl, ?_⟩) ?_ ?_
    rotate_left
    · intro w'
      go_simp
      with_reducible rfl
    rotate_left
    · simp only [Act.put, List.setIfInBounds_toArray, List.set_cons_zero, List.set_cons_succ, i64_w, i32_w]
      rfl
    refine pure_ (i := 40) (N := (some 49)) (v := ?_) (a' := ?_) (pfx 41 61) rfl rfl (any_of HT_.out (by kernel_rfl)) (fun _ _ _ h => h) (Or.inl ⟨by rfl, ?_⟩) ?_ ?_
    rotate_left
    · intro w'
      go_simp
      with_reducible rfl
    rotate_left
    · simp only [Act.put, List.setIfInBounds_toArray, List.set_cons_zero, List.set_cons_succ, i64_w, i32_w]
      rfl
    refine pure_ (i := 41) (N := (some 50)) (v := undef) (a' := ?_) (pfx 42 61) rfl rfl (any_of HT_.out (by kernel_rfl)) (fun _ _ _ h => h) (Or.inr ⟨by rfl, rfl⟩) ?_ ?_
    rotate_left
    · simp only [Act.put, List.setIfInBounds_toArray, List.set_cons_zero, List.set_cons_succ, i64_w, i32_w]
      rfl
    refine pure_ (i := 42) (N := (some 51)) (v := undef) (a' := ?_) (pfx 43 61) rfl rfl (any_of HT_.out (by kernel_rfl)) (fun _ _ _ h => h) (Or.inr ⟨by rfl, rfl⟩) ?_ ?_
    rotate_left
    · simp only [Act.put, List.setIfInBounds_toArray, List.set_cons_zero, List.set_cons_succ, i64_w, i32_w]
      rfl
    refine pure_ (i := 43) (N := (some 52)) (v := undef) (a' := ?_) (pfx 44 61) rfl rfl (any_of HT_.out (by kernel_rfl)) (fun _ _ _ h => h) (Or.inr ⟨by rfl, rfl⟩) ?_ ?_
    rotate_left
    · simp only [Act.put, List.setIfInBounds_toArray, List.set_cons_zero, List.set_cons_succ, i64_w, i32_w]
      rfl
    refine pure_ (i := 44) (N := (some 53)) (v := undef) (a' := ?_) (pfx 45 61) rfl rfl (any_of HT_.out (by kernel_rfl)) (fun _ _ _ h => h) (Or.inr ⟨by rfl, rfl⟩) ?_ ?_
    rotate_left
    · simp only [Act.put, List.setIfInBounds_toArray, List.set_cons_zero, List.set_cons_succ, i64_w, i32_w]
      rfl
    refine pure_ (i := 45) (N := (some 54)) (v := undef) (a' := ?_) (pfx 46 61) rfl rfl (any_of HT_.out (by kernel_rfl)) (fun _ _ _ h => h) (Or.inr ⟨by rfl, rfl⟩) ?_ ?_
    rotate_left
    · simp only [Act.put, List.setIfInBounds_toArray, List.set_cons_zero, List.set_cons_succ, i64_w, i32_w]
      rfl
    refine pure_ (i := 46) (N := (some 55)) (v := undef) (a' := ?_) (pfx 47 61) rfl rfl (any_of HT_.out (by kernel_rfl)) (fun _ _ _ h => h) (Or.inr ⟨by rfl, rfl⟩) ?_ ?_
    rotate_left
    · simp only [Act.put, List.setIfInBounds_toArray, List.set_cons_zero, List.set_cons_succ, i64_w, i32_w]
      rfl
    refine pure_ (i := 47) (N := (some 56)) (v := undef) (a' := ?_) (pfx 48 61) rfl rfl (any_of HT_.out (by kernel_rfl)) (fun _ _ _ h => h) (Or.inr ⟨by rfl, rfl⟩) ?_ ?_
    rotate_left
    · simp only [Act.put, List.setIfInBounds_toArray, List.set_cons_zero, List.set_cons_succ, i64_w, i32_w]
      rfl
    refine pure_ (i := 48) (N := (some 57)) (v := ?_) (a' := ?_) (pfx 49 61) rfl rfl (any_of HT_.out (by kernel_rfl)) (fun _ _ _ h => h) (Or.inl ⟨by rfl, ?_⟩) ?_ ?_
    rotate_left
    · intro w'
      go_simp
      with_reducible rfl
    rotate_left
    · simp only [Act.put, List.setIfInBounds_toArray, List.set_cons_zero, List.set_cons_succ, i64_w, i32_w]
      rfl
    refine pure_ (i := 49) (N := (some 58)) (v := ?_) (a' := ?_) (pfx 50 61) rfl rfl (any_of HT_.out (by kernel_rfl)) (fun _ _ _ h => h) (Or.inl ⟨by rfl, ?_⟩) ?_ ?_
    rotate_left
    · intro w'
      go_simp
      with_reducible rfl
    rotate_left
    · simp only [Act.put, List.setIfInBounds_toArray, List.set_cons_zero, List.set_cons_succ, i64_w, i32_w]
      rfl
    refine pure_ (i := 50) (N := (some 59)) (v := undef) (a' := ?_) (pfx 51 61) rfl rfl (any_of HT_.out (by kernel_rfl)) (fun _ _ _ h => h) (Or.inr ⟨by rfl, rfl⟩) ?_ ?_
    rotate_left
    · simp only [Act.put, List.setIfInBounds_toArray, List.set_cons_zero, List.set_cons_succ, i64_w, i32_w]
      rfl
    refine pure_ (i := 51) (N := (some 60)) (v := undef) (a' := ?_) (pfx 52 61) rfl rfl (any_of HT_.out (by kernel_rfl)) (fun _ _ _ h => h) (Or.inr ⟨by rfl, rfl⟩) ?_ ?_
    rotate_left
    · simp only [Act.put, List.setIfInBounds_toArray, List.set_cons_zero, List.set_cons_succ, i64_w, i32_w]
      rfl
    refine pure_ (i := 52) (N := (some 61)) (v := undef) (a' := ?_) (pfx 53 61) rfl rfl (any_of HT_.out (by kernel_rfl)) (fun _ _ _ h => h) (Or.inr ⟨by rfl, rfl⟩) ?_ ?_
    rotate_left
    · simp only [Act.put, List.setIfInBounds_toArray, List.set_cons_zero, List.set_cons_succ, i64_w, i32_w]
      rfl
    refine pure_ (i := 53) (N := (some 62)) (v := undef) (a' := ?_) (pfx 54 61) rfl rfl (any_of HT_.out (by kernel_rfl)) (fun _ _ _ h => h) (Or.inr ⟨by rfl, rfl⟩) ?_ ?_
    rotate_left
    · simp only [Act.put, List.setIfInBounds_toArray, List.set_cons_zero, List.set_cons_succ, i64_w, i32_w]
      rfl
    refine pure_ (i := 54) (N := (some 63)) (v := undef) (a' := ?_) (pfx 55 61) rfl rfl (any_of HT_.out (by kernel_rfl)) (fun _ _ _ h => h) (Or.inr ⟨by rfl, rfl⟩) ?_ ?_
    rotate_left
    · simp only [Act.put, List.setIfInBounds_toArray, List.set_cons_zero, List.set_cons_succ, i64_w, i32_w]
      rfl
    refine pure_ (i := 55) (N := (some 64)) (v := undef) (a' := ?_) (pfx 56 61) rfl rfl (any_of HT_.out (by kernel_rfl)) (fun _ _ _ h => h) (Or.inr ⟨by rfl, rfl⟩) ?_ ?_
    rotate_left
    · simp only [Act.put, List.setIfInBounds_toArray, List.set_cons_zero, List.set_cons_succ, i64_w, i32_w]
      rfl
    refine pure_ (i := 56) (N := (some 65)) (v := undef) (a' := ?_) (pfx 57 61) rfl rfl (any_of HT_.out (by kernel_rfl)) (fun _ _ _ h => h) (Or.inr ⟨by rfl, rfl⟩) ?_ ?_
    rotate_left
    · simp only [Act.put, List.setIfInBounds_toArray, List.set_cons_zero, List.set_cons_succ, i64_w, i32_w]
      rfl
    refine pure_ (i := 57) (N := (some 66)) (v := undef) (a' := ?_) (pfx 58 61) rfl rfl (any_of HT_.out (by kernel_rfl)) (fun _ _ _ h => h) (Or.inr ⟨by rfl, rfl⟩) ?_ ?_
    rotate_left
    · simp only [Act.put, List.setIfInBounds_toArray, List.set_cons_zero, List.set_cons_succ, i64_w, i32_w]
      rfl
    refine pure_ (i := 58) (N := (some 67)) (v := undef) (a' := ?_) (pfx 59 61) rfl rfl (any_of HT_.out (by kernel_rfl)) (fun _ _ _ h => h) (Or.inr ⟨by rfl, rfl⟩) ?_ ?_
    rotate_left
    · simp only [Act.put, List.setIfInBounds_toArray, List.set_cons_zero, List.set_cons_succ, i64_w, i32_w]
      rfl
    refine pure_ (i := 59) (N := (some 68)) (v := undef) (a' := ?_) (pfx 60 61) rfl rfl (any_of HT_.out (by kernel_rfl)) (fun _ _ _ h => h) (Or.inr ⟨by rfl, rfl⟩) ?_ ?_
    rotate_left
    · simp only [Act.put, List.setIfInBounds_toArray, List.set_cons_zero, List.set_cons_succ, i64_w, i32_w]
      rfl
    refine pure_ (i := 60) (N := (some 69)) (v := ?_) (a' := ?_) (pfx 61 61) rfl rfl (any_of HT_.out (by kernel_rfl)) (fun _ _ _ h => h) (Or.inl ⟨by rfl, ?_⟩) ?_ ?_
    rotate_left
    · intro w'
      go_simp
      with_reducible rfl
    rotate_left
    · simp only [Act.put, List.setIfInBounds_toArray, List.set_cons_zero, List.set_cons_succ, i64_w, i32_w]
      rfl
    refine done_ (done_of HT_.out (by kernel_rfl)) ?_
    go_wp2
    go_ret
    exact ⟨rfl, HH.out.fail.drew, Lib.Hx.grownBy_drew (Lib.Hx.grownBy_set (World.grownBy.refl _ _) ⟨r, 2, none⟩ rfl _)⟩
set_option maxHeartbeats 16000000 in
set_option maxRecDepth 100000 in
theorem number_on (s : ByteArray) (r a : Nat) (w : World) (h : RdAt w r s a true) (ha : a ≤ s.size) (hs : s.size ≤ 1048576) (R : Nat × Nat) (hR : nm s a (s.size - a) a 0 = R) :
    Calls Tryd.prog 57 #[.pointer (some ⟨r, 0, none⟩)] w fun e w' => e = .returned (.int .i64 (R.2 : Int)) ∧ RdAt w' r s R.1 (decide (R.1 ≠ a)) ∧ w.grownBy w' (some r) := by
  have HS := Aside0.mk hs
  have HH := Aside0.mk h
  have HA := Aside0.mk (And.intro ha hR)
  obtain ⟨⟨c0, c1, c2⟩, z1, z2⟩ := h.cells
  clear h ha hs hR
  go_enter Tryd.func57, Tryd.ntmps57
  go_wp2
  clear c0 c1 c2 z1 z2
  go_loopg [4] (s.size - a) (fun g_ s4 wq => ∃ (b n : Nat), s4 = .int .i64 (n : Int) ∧ Aside0 (b + g_ = s.size ∧ a ≤ b ∧ b ≤ a + 9 ∧ n < 10 ^ (b - a) ∧ nm s a g_ b n = R) ∧ Aside0 (RdAt wq r s b true) ∧ Aside0 (w.grownBy wq (some r)))
  case atStart => exact ⟨a, 0, rfl, ⟨by have := HA.out.1; omega, Nat.le_refl _, by omega, by rw [Nat.sub_self]; decide, HA.out.2⟩, HH, ⟨World.grownBy.refl _ _⟩⟩
  case round =>
    obtain ⟨b, n, rfl, HX, HR, HG⟩ := hrel
    obtain ⟨⟨c0, c1, c2⟩, z1, z2⟩ := HR.out.cells
    have x2 : ∀ h : b < s.size, ((s[b]'h).toNat : Int) = bt s (b : Int) := bt_at s (b : Int)
    have HN := Aside0.mk (nstep n)
    have w4_ : wrap64 ((b : Int) - (a : Int)) = (b : Int) - (a : Int) := by have := HX.out.2.1; have := HX.out.2.2.1; clear HX HR HG x2 c0 c1 c2 z1 z2; unfold wrap64; omega
    go_upto_region 2 with fail
    refine start_ (n := 61) (S := fun w' => w'.cell? ⟨r, 0, none⟩ = some (.string s) ∧ w'.cell? ⟨r, 1, none⟩ = some (.int .i64 (b : Int)) ∧ w'.cell? ⟨r, 2, none⟩ = some (.bool true)) (ds := []) (pfx 0 61) (by kernel_rfl) rfl (by kernel_rfl) ⟨c0, c1, c2⟩ (fun hHeld => ?_)
    refine with_tabW tab57_2 bits57_2 (fun HT_ HW_ => ?_)
    refine pure_ (i := 0) (N := (some 9)) (v := ?_) (a' := ?_) (pfx 1 61) rfl rfl (any_of HT_.out (by kernel_rfl)) (fun _ _ _ h => h) (Or.inl ⟨by rfl, ?_⟩) ?_ ?_
    rotate_left
    · intro w'
      go_simp
      with_reducible rfl
    rotate_left
    · simp only [Act.put, List.setIfInBounds_toArray, List.set_cons_zero, List.set_cons_succ, i64_w, i32_w]
      rfl
    refine pure_ (i := 1) (N := (some 10)) (v := ?_) (a' := ?_) (pfx 2 61) rfl rfl (any_of HT_.out (by kernel_rfl)) (fun _ _ _ h => h) (Or.inl ⟨by rfl, ?_⟩) ?_ ?_
    rotate_left
    · intro w'
      go_simp
      with_reducible rfl
    rotate_left
    · simp only [Act.put, List.setIfInBounds_toArray, List.set_cons_zero, List.set_cons_succ, i64_w, i32_w]
      rfl
    refine pure_ (i := 2) (N := (some 11)) (v := ?_) (a' := ?_) (pfx 3 61) rfl rfl (any_of HT_.out (by kernel_rfl)) (fun _ _ _ h => h) (Or.inl ⟨by rfl, ?_⟩) ?_ ?_
    rotate_left
    · intro w'
      go_simp
      with_reducible rfl
    rotate_left
    · simp only [Act.put, List.setIfInBounds_toArray, List.set_cons_zero, List.set_cons_succ, i64_w, i32_w]
      rfl
    refine take_ (i := 3) (N := (some 12)) (v := ?_) (a' := ?_) (pfx 4 61) rfl rfl (take_ofW HT_.out HW_.out (by kernel_rfl)) (fun _ _ _ h => h) (Or.inl ⟨by rfl, ?_⟩) hHeld ?_ ?_
    rotate_left
    · rintro w' ⟨s0, s1, s2⟩
      go_simp
      with_reducible rfl
    rotate_left
    · simp only [Act.put, List.setIfInBounds_toArray, List.set_cons_zero, List.set_cons_succ, i64_w, i32_w]
      rfl
    refine pure_ (i := 4) (N := (some 13)) (v := ?_) (a' := ?_) (pfx 5 61) rfl rfl (any_of HT_.out (by kernel_rfl)) (fun _ _ _ h => h) (Or.inl ⟨by rfl, ?_⟩) ?_ ?_
    rotate_left
    · intro w'
      go_simp
      with_reducible rfl
    rotate_left
    · simp only [Act.put, List.setIfInBounds_toArray, List.set_cons_zero, List.set_cons_succ, i64_w, i32_w]
      rfl
    refine pure_ (i := 5) (N := (some 14)) (v := ?_) (a' := ?_) (pfx 6 61) rfl rfl (any_of HT_.out (by kernel_rfl)) (fun _ _ _ h => h) (Or.inl ⟨by rfl, ?_⟩) ?_ ?_
    rotate_left
    · intro w'
      go_simp
      with_reducible rfl
    rotate_left
    · simp only [Act.put, List.setIfInBounds_toArray, List.set_cons_zero, List.set_cons_succ, i64_w, i32_w]
      rfl
    refine pure_ (i := 6) (N := (some 15)) (v := ?_) (a' := ?_) (pfx 7 61) rfl rfl (any_of HT_.out (by kernel_rfl)) (fun _ _ _ h => h) (Or.inl ⟨by rfl, ?_⟩) ?_ ?_
    rotate_left
    · intro w'
      go_simp
      with_reducible rfl
    rotate_left
    · simp only [Act.put, List.setIfInBounds_toArray, List.set_cons_zero, List.set_cons_succ, i64_w, i32_w]
      rfl
    refine pure_ (i := 7) (N := (some 16)) (v := ?_) (a' := ?_) (pfx 8 61) rfl rfl (any_of HT_.out (by kernel_rfl)) (fun _ _ _ h => h) (Or.inl ⟨by rfl, ?_⟩) ?_ ?_
    rotate_left
    · intro w'
      go_simp
      with_reducible rfl
    rotate_left
    · simp only [Act.put, List.setIfInBounds_toArray, List.set_cons_zero, List.set_cons_succ, i64_w, i32_w]
      rfl
    refine take_ (i := 8) (N := (some 17)) (v := ?_) (a' := ?_) (pfx 9 61) rfl rfl (take_ofW HT_.out HW_.out (by kernel_rfl)) (fun _ _ _ h => h) (Or.inl ⟨by rfl, ?_⟩) hHeld ?_ ?_
    rotate_left
    · rintro w' ⟨s0, s1, s2⟩
      go_simp
      with_reducible rfl
    rotate_left
    · simp only [Act.put, List.setIfInBounds_toArray, List.set_cons_zero, List.set_cons_succ, i64_w, i32_w]
      rfl
    refine pure_ (i := 9) (N := (some 18)) (v := ?_) (a' := ?_) (pfx 10 61) rfl rfl (any_of HT_.out (by kernel_rfl)) (fun _ _ _ h => h) (Or.inl ⟨by rfl, ?_⟩) ?_ ?_
    rotate_left
    · intro w'
      go_simp
      with_reducible rfl
    rotate_left
    · simp only [Act.put, List.setIfInBounds_toArray, List.set_cons_zero, List.set_cons_succ, i64_w, i32_w]
      rfl
    refine pure_ (i := 10) (N := (some 19)) (v := ?_) (a' := ?_) (pfx 11 61) rfl rfl (any_of HT_.out (by kernel_rfl)) (fun _ _ _ h => h) (Or.inl ⟨by rfl, ?_⟩) ?_ ?_
    rotate_left
    · intro w'
      go_simp
      with_reducible rfl
    rotate_left
    · simp only [Act.put, List.setIfInBounds_toArray, List.set_cons_zero, List.set_cons_succ, i64_w, i32_w]
      rfl
    refine pure_ (i := 11) (N := (some 20)) (v := ?_) (a' := ?_) (pfx 12 61) rfl rfl (any_of HT_.out (by kernel_rfl)) (fun _ _ _ h => h) (Or.inl ⟨by rfl, ?_⟩) ?_ ?_
    rotate_left
    · intro w'
      go_simp
      with_reducible rfl
    rotate_left
    · simp only [Act.put, List.setIfInBounds_toArray, List.set_cons_zero, List.set_cons_succ, i64_w, i32_w]
      rfl
    refine take_ (i := 12) (N := (some 21)) (v := ?_) (a' := ?_) (pfx 13 61) rfl rfl (take_ofW HT_.out HW_.out (by kernel_rfl)) (fun _ _ _ h => h) (Or.inl ⟨by rfl, ?_⟩) hHeld ?_ ?_
    rotate_left
    · rintro w' ⟨s0, s1, s2⟩
      go_simp
      with_reducible rfl
    rotate_left
    · simp only [Act.put, List.setIfInBounds_toArray, List.set_cons_zero, List.set_cons_succ, i64_w, i32_w]
      rfl
    refine pure_ (i := 13) (N := (some 22)) (v := ?_) (a' := ?_) (pfx 14 61) rfl rfl (any_of HT_.out (by kernel_rfl)) (fun _ _ _ h => h) (Or.inl ⟨by rfl, ?_⟩) ?_ ?_
    rotate_left
    · intro w'
      go_simp
      with_reducible rfl
    rotate_left
    · simp only [Act.put, List.setIfInBounds_toArray, List.set_cons_zero, List.set_cons_succ, i64_w, i32_w]
      rfl
    by_cases qa : b < s.size
    · refine pure_ (i := 14) (N := (some 23)) (v := ?_) (a' := ?_) (pfx 15 61) rfl rfl (any_of HT_.out (by kernel_rfl)) (fun _ _ _ h => h) (Or.inl ⟨by rfl, ?_⟩) ?_ ?_
      rotate_left
      · intro w'
        go_simp
        with_reducible rfl
      rotate_left
      · simp only [Act.put, List.setIfInBounds_toArray, List.set_cons_zero, List.set_cons_succ, i64_w, i32_w]
        rfl
      refine pure_ (i := 15) (N := (some 24)) (v := ?_) (a' := ?_) (pfx 16 61) rfl rfl (any_of HT_.out (by kernel_rfl)) (fun _ _ _ h => h) (Or.inl ⟨by rfl, ?_⟩) ?_ ?_
      rotate_left
      · intro w'
        go_simp
        with_reducible rfl
      rotate_left
      · simp only [Act.put, List.setIfInBounds_toArray, List.set_cons_zero, List.set_cons_succ, i64_w, i32_w]
        rfl
      refine pure_ (i := 16) (N := (some 25)) (v := ?_) (a' := ?_) (pfx 17 61) rfl rfl (any_of HT_.out (by kernel_rfl)) (fun _ _ _ h => h) (Or.inl ⟨by rfl, ?_⟩) ?_ ?_
      rotate_left
      · intro w'
        go_simp
        with_reducible rfl
      rotate_left
      · simp only [Act.put, List.setIfInBounds_toArray, List.set_cons_zero, List.set_cons_succ, i64_w, i32_w]
        rfl
      refine pure_ (i := 17) (N := (some 26)) (v := ?_) (a' := ?_) (pfx 18 61) rfl rfl (any_of HT_.out (by kernel_rfl)) (fun _ _ _ h => h) (Or.inl ⟨by rfl, ?_⟩) ?_ ?_
      rotate_left
      · intro w'
        go_simp
        with_reducible rfl
      rotate_left
      · simp only [Act.put, List.setIfInBounds_toArray, List.set_cons_zero, List.set_cons_succ, i64_w, i32_w]
        rfl
      refine pure_ (i := 18) (N := (some 27)) (v := ?_) (a' := ?_) (pfx 19 61) rfl rfl (any_of HT_.out (by kernel_rfl)) (fun _ _ _ h => h) (Or.inl ⟨by rfl, ?_⟩) ?_ ?_
      rotate_left
      · intro w'
        go_simp
        with_reducible rfl
      rotate_left
      · simp only [Act.put, List.setIfInBounds_toArray, List.set_cons_zero, List.set_cons_succ, i64_w, i32_w]
        rfl
      refine pure_ (i := 19) (N := (some 28)) (v := ?_) (a' := ?_) (pfx 20 61) rfl rfl (any_of HT_.out (by kernel_rfl)) (fun _ _ _ h => h) (Or.inl ⟨by rfl, ?_⟩) ?_ ?_
      rotate_left
      · intro w'
        go_simp
        with_reducible rfl
      rotate_left
      · simp only [Act.put, List.setIfInBounds_toArray, List.set_cons_zero, List.set_cons_succ, i64_w, i32_w]
        rfl
      refine take_ (i := 20) (N := (some 29)) (v := ?_) (a' := ?_) (pfx 21 61) rfl rfl (take_ofW HT_.out HW_.out (by kernel_rfl)) (fun _ _ _ h => h) (Or.inl ⟨by rfl, ?_⟩) hHeld ?_ ?_
      rotate_left
      · rintro w' ⟨s0, s1, s2⟩
        go_simp
        with_reducible rfl
      rotate_left
      · simp only [Act.put, List.setIfInBounds_toArray, List.set_cons_zero, List.set_cons_succ, i64_w, i32_w]
        rfl
      refine pure_ (i := 21) (N := (some 30)) (v := ?_) (a' := ?_) (pfx 22 61) rfl rfl (any_of HT_.out (by kernel_rfl)) (fun _ _ _ h => h) (Or.inl ⟨by rfl, ?_⟩) ?_ ?_
      rotate_left
      · intro w'
        go_simp
        with_reducible rfl
      rotate_left
      · simp only [Act.put, List.setIfInBounds_toArray, List.set_cons_zero, List.set_cons_succ, i64_w, i32_w]
        rfl
      refine pure_ (i := 22) (N := (some 31)) (v := ?_) (a' := ?_) (pfx 23 61) rfl rfl (any_of HT_.out (by kernel_rfl)) (fun _ _ _ h => h) (Or.inl ⟨by rfl, ?_⟩) ?_ ?_
      rotate_left
      · intro w'
        go_simp
        with_reducible rfl
      rotate_left
      · simp only [Act.put, List.setIfInBounds_toArray, List.set_cons_zero, List.set_cons_succ, i64_w, i32_w]
        rfl
      refine pure_ (i := 23) (N := (some 32)) (v := ?_) (a' := ?_) (pfx 24 61) rfl rfl (any_of HT_.out (by kernel_rfl)) (fun _ _ _ h => h) (Or.inl ⟨by rfl, ?_⟩) ?_ ?_
      rotate_left
      · intro w'
        go_simp
        with_reducible rfl
      rotate_left
      · simp only [Act.put, List.setIfInBounds_toArray, List.set_cons_zero, List.set_cons_succ, i64_w, i32_w]
        rfl
      refine take_ (i := 24) (N := (some 33)) (v := ?_) (a' := ?_) (pfx 25 61) rfl rfl (take_ofW HT_.out HW_.out (by kernel_rfl)) (fun _ _ _ h => h) (Or.inl ⟨by rfl, ?_⟩) hHeld ?_ ?_
      rotate_left
      · rintro w' ⟨s0, s1, s2⟩
        go_simp
        with_reducible rfl
      rotate_left
      · simp only [Act.put, List.setIfInBounds_toArray, List.set_cons_zero, List.set_cons_succ, i64_w, i32_w]
        rfl
      refine pure_ (i := 25) (N := (some 34)) (v := ?_) (a' := ?_) (pfx 26 61) rfl rfl (any_of HT_.out (by kernel_rfl)) (fun _ _ _ h => h) (Or.inl ⟨by rfl, ?_⟩) ?_ ?_
      rotate_left
      · intro w'
        go_simp
        with_reducible rfl
      rotate_left
      · simp only [Act.put, List.setIfInBounds_toArray, List.set_cons_zero, List.set_cons_succ, i64_w, i32_w]
        rfl
      by_cases q48 : 48 ≤ bt s (b : Int)
      · refine pure_ (i := 26) (N := (some 35)) (v := ?_) (a' := ?_) (pfx 27 61) rfl rfl (any_of HT_.out (by kernel_rfl)) (fun _ _ _ h => h) (Or.inl ⟨by rfl, ?_⟩) ?_ ?_
        rotate_left
        · intro w'
          go_simp
          with_reducible rfl
        rotate_left
        · simp only [Act.put, List.setIfInBounds_toArray, List.set_cons_zero, List.set_cons_succ, i64_w, i32_w]
          rfl
        refine pure_ (i := 27) (N := (some 36)) (v := ?_) (a' := ?_) (pfx 28 61) rfl rfl (any_of HT_.out (by kernel_rfl)) (fun _ _ _ h => h) (Or.inl ⟨by rfl, ?_⟩) ?_ ?_
        rotate_left
        · intro w'
          go_simp
          with_reducible rfl
        rotate_left
        · simp only [Act.put, List.setIfInBounds_toArray, List.set_cons_zero, List.set_cons_succ, i64_w, i32_w]
          rfl
        refine pure_ (i := 28) (N := (some 37)) (v := ?_) (a' := ?_) (pfx 29 61) rfl rfl (any_of HT_.out (by kernel_rfl)) (fun _ _ _ h => h) (Or.inl ⟨by rfl, ?_⟩) ?_ ?_
        rotate_left
        · intro w'
          go_simp
          with_reducible rfl
        rotate_left
        · simp only [Act.put, List.setIfInBounds_toArray, List.set_cons_zero, List.set_cons_succ, i64_w, i32_w]
          rfl
        refine pure_ (i := 29) (N := (some 38)) (v := ?_) (a' := ?_) (pfx 30 61) rfl rfl (any_of HT_.out (by kernel_rfl)) (fun _ _ _ h => h) (Or.inl ⟨by rfl, ?_⟩) ?_ ?_
        rotate_left
        · intro w'
          go_simp
          with_reducible rfl
        rotate_left
        · simp only [Act.put, List.setIfInBounds_toArray, List.set_cons_zero, List.set_cons_succ, i64_w, i32_w]
          rfl
        refine pure_ (i := 30) (N := (some 39)) (v := ?_) (a' := ?_) (pfx 31 61) rfl rfl (any_of HT_.out (by kernel_rfl)) (fun _ _ _ h => h) (Or.inl ⟨by rfl, ?_⟩) ?_ ?_
        rotate_left
        · intro w'
          go_simp
          with_reducible rfl
        rotate_left
        · simp only [Act.put, List.setIfInBounds_toArray, List.set_cons_zero, List.set_cons_succ, i64_w, i32_w]
          rfl
        refine pure_ (i := 31) (N := (some 40)) (v := ?_) (a' := ?_) (pfx 32 61) rfl rfl (any_of HT_.out (by kernel_rfl)) (fun _ _ _ h => h) (Or.inl ⟨by rfl, ?_⟩) ?_ ?_
        rotate_left
        · intro w'
          go_simp
          with_reducible rfl
        rotate_left
        · simp only [Act.put, List.setIfInBounds_toArray, List.set_cons_zero, List.set_cons_succ, i64_w, i32_w]
          rfl
        refine take_ (i := 32) (N := (some 41)) (v := ?_) (a' := ?_) (pfx 33 61) rfl rfl (take_ofW HT_.out HW_.out (by kernel_rfl)) (fun _ _ _ h => h) (Or.inl ⟨by rfl, ?_⟩) hHeld ?_ ?_
        rotate_left
        · rintro w' ⟨s0, s1, s2⟩
          go_simp
          with_reducible rfl
        rotate_left
        · simp only [Act.put, List.setIfInBounds_toArray, List.set_cons_zero, List.set_cons_succ, i64_w, i32_w]
          rfl
        refine pure_ (i := 33) (N := (some 42)) (v := ?_) (a' := ?_) (pfx 34 61) rfl rfl (any_of HT_.out (by kernel_rfl)) (fun _ _ _ h => h) (Or.inl ⟨by rfl, ?_⟩) ?_ ?_
        rotate_left
        · intro w'
          go_simp
          with_reducible rfl
        rotate_left
        · simp only [Act.put, List.setIfInBounds_toArray, List.set_cons_zero, List.set_cons_succ, i64_w, i32_w]
          rfl
        refine pure_ (i := 34) (N := (some 43)) (v := ?_) (a' := ?_) (pfx 35 61) rfl rfl (any_of HT_.out (by kernel_rfl)) (fun _ _ _ h => h) (Or.inl ⟨by rfl, ?_⟩) ?_ ?_
        rotate_left
        · intro w'
          go_simp
          with_reducible rfl
        rotate_left
        · simp only [Act.put, List.setIfInBounds_toArray, List.set_cons_zero, List.set_cons_succ, i64_w, i32_w]
          rfl
        refine pure_ (i := 35) (N := (some 44)) (v := ?_) (a' := ?_) (pfx 36 61) rfl rfl (any_of HT_.out (by kernel_rfl)) (fun _ _ _ h => h) (Or.inl ⟨by rfl, ?_⟩) ?_ ?_
        rotate_left
        · intro w'
          go_simp
          with_reducible rfl
        rotate_left
        · simp only [Act.put, List.setIfInBounds_toArray, List.set_cons_zero, List.set_cons_succ, i64_w, i32_w]
          rfl
        refine take_ (i := 36) (N := (some 45)) (v := ?_) (a' := ?_) (pfx 37 61) rfl rfl (take_ofW HT_.out HW_.out (by kernel_rfl)) (fun _ _ _ h => h) (Or.inl ⟨by rfl, ?_⟩) hHeld ?_ ?_
        rotate_left
        · rintro w' ⟨s0, s1, s2⟩
          go_simp
          with_reducible rfl
        rotate_left
        · simp only [Act.put, List.setIfInBounds_toArray, List.set_cons_zero, List.set_cons_succ, i64_w, i32_w]
          rfl
        refine pure_ (i := 37) (N := (some 46)) (v := ?_) (a' := ?_) (pfx 38 61) rfl rfl (any_of HT_.out (by kernel_rfl)) (fun _ _ _ h => h) (Or.inl ⟨by rfl, ?_⟩) ?_ ?_
        rotate_left
        · intro w'
          go_simp
          with_reducible rfl
        rotate_left
        · simp only [Act.put, List.setIfInBounds_toArray, List.set_cons_zero, List.set_cons_succ, i64_w, i32_w]
          rfl
        by_cases q57 : bt s (b : Int) ≤ 57
        · refine pure_ (i := 38) (N := (some 47)) (v := ?_) (a' := ?_) (pfx 39 61) rfl rfl (any_of HT_.out (by kernel_rfl)) (fun _ _ _ h => h) (Or.inl ⟨by rfl, ?_⟩) ?_ ?_
          rotate_left
          · intro w'
            go_simp
            with_reducible rfl
          rotate_left
          · simp only [Act.put, List.setIfInBounds_toArray, List.set_cons_zero, List.set_cons_succ, i64_w, i32_w]
            rfl
          refine pure_ (i := 39) (N := (some 48)) (v := ?_) (a' := ?_) (pfx 40 61) rfl rfl (any_of HT_.out (by kernel_rfl)) (fun _ _ _ h => h) (Or.inl ⟨by rfl, ?_⟩) ?_ ?_
          rotate_left
          · intro w'
            go_simp
            with_reducible rfl
          rotate_left
          · simp only [Act.put, List.setIfInBounds_toArray, List.set_cons_zero, List.set_cons_succ, i64_w, i32_w]
            rfl
          refine pure_ (i := 40) (N := (some 49)) (v := ?_) (a' := ?_) (pfx 41 61) rfl rfl (any_of HT_.out (by kernel_rfl)) (fun _ _ _ h => h) (Or.inl ⟨by rfl, ?_⟩) ?_ ?_
          rotate_left
          · intro w'
            go_simp
            with_reducible rfl
          rotate_left
          · simp only [Act.put, List.setIfInBounds_toArray, List.set_cons_zero, List.set_cons_succ, i64_w, i32_w]
            rfl
          refine pure_ (i := 41) (N := (some 50)) (v := ?_) (a' := ?_) (pfx 42 61) rfl rfl (any_of HT_.out (by kernel_rfl)) (fun _ _ _ h => h) (Or.inl ⟨by rfl, ?_⟩) ?_ ?_
          rotate_left
          · intro w'
            go_simp
            with_reducible rfl
          rotate_left
          · simp only [Act.put, List.setIfInBounds_toArray, List.set_cons_zero, List.set_cons_succ, i64_w, i32_w]
            rfl
          refine pure_ (i := 42) (N := (some 51)) (v := ?_) (a' := ?_) (pfx 43 61) rfl rfl (any_of HT_.out (by kernel_rfl)) (fun _ _ _ h => h) (Or.inl ⟨by rfl, ?_⟩) ?_ ?_
          rotate_left
          · intro w'
            go_simp
            with_reducible rfl
          rotate_left
          · simp only [Act.put, List.setIfInBounds_toArray, List.set_cons_zero, List.set_cons_succ, i64_w, i32_w]
            rfl
          refine pure_ (i := 43) (N := (some 52)) (v := ?_) (a' := ?_) (pfx 44 61) rfl rfl (any_of HT_.out (by kernel_rfl)) (fun _ _ _ h => h) (Or.inl ⟨by rfl, ?_⟩) ?_ ?_
          rotate_left
          · intro w'
            go_simp
            with_reducible rfl
          rotate_left
          · simp only [Act.put, List.setIfInBounds_toArray, List.set_cons_zero, List.set_cons_succ, i64_w, i32_w]
            rfl
          refine take_ (i := 44) (N := (some 53)) (v := ?_) (a' := ?_) (pfx 45 61) rfl rfl (take_ofW HT_.out HW_.out (by kernel_rfl)) (fun _ _ _ h => h) (Or.inl ⟨by rfl, ?_⟩) hHeld ?_ ?_
          rotate_left
          · rintro w' ⟨s0, s1, s2⟩
            go_simp
            with_reducible rfl
          rotate_left
          · simp only [Act.put, List.setIfInBounds_toArray, List.set_cons_zero, List.set_cons_succ, i64_w, i32_w]
            rfl
          refine pure_ (i := 45) (N := (some 54)) (v := ?_) (a' := ?_) (pfx 46 61) rfl rfl (any_of HT_.out (by kernel_rfl)) (fun _ _ _ h => h) (Or.inl ⟨by rfl, ?_⟩) ?_ ?_
          rotate_left
          · intro w'
            go_simp
            with_reducible rfl
          rotate_left
          · simp only [Act.put, List.setIfInBounds_toArray, List.set_cons_zero, List.set_cons_succ, i64_w, i32_w]
            rfl
          refine pure_ (i := 46) (N := (some 55)) (v := ?_) (a' := ?_) (pfx 47 61) rfl rfl (any_of HT_.out (by kernel_rfl)) (fun _ _ _ h => h) (Or.inl ⟨by rfl, ?_⟩) ?_ ?_
          rotate_left
          · intro w'
            go_simp
            with_reducible rfl
          rotate_left
          · simp only [Act.put, List.setIfInBounds_toArray, List.set_cons_zero, List.set_cons_succ, i64_w, i32_w]
            rfl
          by_cases q9 : (b : Int) - (a : Int) < 9
          · refine pure_ (i := 47) (N := (some 56)) (v := ?_) (a' := ?_) (pfx 48 61) rfl rfl (any_of HT_.out (by kernel_rfl)) (fun _ _ _ h => h) (Or.inl ⟨by rfl, ?_⟩) ?_ ?_
            rotate_left
            · intro w'
              go_simp
              with_reducible rfl
            rotate_left
            · simp only [Act.put, List.setIfInBounds_toArray, List.set_cons_zero, List.set_cons_succ, i64_w, i32_w]
              rfl
            refine pure_ (i := 48) (N := (some 57)) (v := ?_) (a' := ?_) (pfx 49 61) rfl rfl (any_of HT_.out (by kernel_rfl)) (fun _ _ _ h => h) (Or.inl ⟨by rfl, ?_⟩) ?_ ?_
            rotate_left
            · intro w'
              go_simp
              with_reducible rfl
            rotate_left
            · simp only [Act.put, List.setIfInBounds_toArray, List.set_cons_zero, List.set_cons_succ, i64_w, i32_w]
              rfl
            refine pure_ (i := 49) (N := (some 58)) (v := ?_) (a' := ?_) (pfx 50 61) rfl rfl (any_of HT_.out (by kernel_rfl)) (fun _ _ _ h => h) (Or.inl ⟨by rfl, ?_⟩) ?_ ?_
            rotate_left
            · intro w'
              go_simp
              with_reducible rfl
            rotate_left
            · simp only [Act.put, List.setIfInBounds_toArray, List.set_cons_zero, List.set_cons_succ, i64_w, i32_w]
              rfl
            refine pure_ (i := 50) (N := (some 59)) (v := ?_) (a' := ?_) (pfx 51 61) rfl rfl (any_of HT_.out (by kernel_rfl)) (fun _ _ _ h => h) (Or.inl ⟨by rfl, ?_⟩) ?_ ?_
            rotate_left
            · intro w'
              go_simp
              with_reducible rfl
            rotate_left
            · simp only [Act.put, List.setIfInBounds_toArray, List.set_cons_zero, List.set_cons_succ, i64_w, i32_w]
              rfl
            by_cases qn : 0 < n
            · have qn' : (n : Int) > 0 := by omega
              refine pure_ (i := 51) (N := (some 60)) (v := ?_) (a' := ?_) (pfx 52 61) rfl rfl (any_of HT_.out (by kernel_rfl)) (fun _ _ _ h => h) (Or.inl ⟨by rfl, ?_⟩) ?_ ?_
              rotate_left
              · intro w'
                go_simp
                with_reducible rfl
              rotate_left
              · simp only [Act.put, List.setIfInBounds_toArray, List.set_cons_zero, List.set_cons_succ, i64_w, i32_w]
                rfl
              refine pure_ (i := 52) (N := (some 61)) (v := ?_) (a' := ?_) (pfx 53 61) rfl rfl (any_of HT_.out (by kernel_rfl)) (fun _ _ _ h => h) (Or.inl ⟨by rfl, ?_⟩) ?_ ?_
              rotate_left
              · intro w'
                go_simp
                with_reducible rfl
              rotate_left
              · simp only [Act.put, List.setIfInBounds_toArray, List.set_cons_zero, List.set_cons_succ, i64_w, i32_w]
                rfl
              refine pure_ (i := 53) (N := (some 62)) (v := undef) (a' := ?_) (pfx 54 61) rfl rfl (any_of HT_.out (by kernel_rfl)) (fun _ _ _ h => h) (Or.inr ⟨by rfl, rfl⟩) ?_ ?_
              rotate_left
              · simp only [Act.put, List.setIfInBounds_toArray, List.set_cons_zero, List.set_cons_succ, i64_w, i32_w]
                rfl
              refine pure_ (i := 54) (N := (some 63)) (v := undef) (a' := ?_) (pfx 55 61) rfl rfl (any_of HT_.out (by kernel_rfl)) (fun _ _ _ h => h) (Or.inr ⟨by rfl, rfl⟩) ?_ ?_
              rotate_left
              · simp only [Act.put, List.setIfInBounds_toArray, List.set_cons_zero, List.set_cons_succ, i64_w, i32_w]
                rfl
              refine pure_ (i := 55) (N := (some 64)) (v := undef) (a' := ?_) (pfx 56 61) rfl rfl (any_of HT_.out (by kernel_rfl)) (fun _ _ _ h => h) (Or.inr ⟨by rfl, rfl⟩) ?_ ?_
              rotate_left
              · simp only [Act.put, List.setIfInBounds_toArray, List.set_cons_zero, List.set_cons_succ, i64_w, i32_w]
                rfl
              refine pure_ (i := 56) (N := (some 65)) (v := undef) (a' := ?_) (pfx 57 61) rfl rfl (any_of HT_.out (by kernel_rfl)) (fun _ _ _ h => h) (Or.inr ⟨by rfl, rfl⟩) ?_ ?_
              rotate_left
              · simp only [Act.put, List.setIfInBounds_toArray, List.set_cons_zero, List.set_cons_succ, i64_w, i32_w]
                rfl
              refine pure_ (i := 57) (N := (some 66)) (v := undef) (a' := ?_) (pfx 58 61) rfl rfl (any_of HT_.out (by kernel_rfl)) (fun _ _ _ h => h) (Or.inr ⟨by rfl, rfl⟩) ?_ ?_
              rotate_left
              · simp only [Act.put, List.setIfInBounds_toArray, List.set_cons_zero, List.set_cons_succ, i64_w, i32_w]
                rfl
              refine pure_ (i := 58) (N := (some 67)) (v := undef) (a' := ?_) (pfx 59 61) rfl rfl (any_of HT_.out (by kernel_rfl)) (fun _ _ _ h => h) (Or.inr ⟨by rfl, rfl⟩) ?_ ?_
              rotate_left
              · simp only [Act.put, List.setIfInBounds_toArray, List.set_cons_zero, List.set_cons_succ, i64_w, i32_w]
                rfl
              refine pure_ (i := 59) (N := (some 68)) (v := ?_) (a' := ?_) (pfx 60 61) rfl rfl (any_of HT_.out (by kernel_rfl)) (fun _ _ _ h => h) (Or.inl ⟨by rfl, ?_⟩) ?_ ?_
              rotate_left
              · intro w'
                go_simp
                with_reducible rfl
              rotate_left
              · simp only [Act.put, List.setIfInBounds_toArray, List.set_cons_zero, List.set_cons_succ, i64_w, i32_w]
                rfl
              refine pure_ (i := 60) (N := (some 69)) (v := ?_) (a' := ?_) (pfx 61 61) rfl rfl (any_of HT_.out (by kernel_rfl)) (fun _ _ _ h => h) (Or.inl ⟨by rfl, ?_⟩) ?_ ?_
              rotate_left
              · intro w'
                go_simp
                with_reducible rfl
              rotate_left
              · simp only [Act.put, List.setIfInBounds_toArray, List.set_cons_zero, List.set_cons_succ, i64_w, i32_w]
                rfl
              refine done_ (done_of HT_.out (by kernel_rfl)) ?_
              obtain ⟨m, rfl⟩ : ∃ d, gk = d + 1 := ⟨gk - 1, by have := HX.out.1; omega⟩
              have e1 : nm s a m (b + 1) (10 * n + (bt s b - 48).toNat) = R := by rw [← HX.out.2.2.2.2, nm, if_pos ⟨q48, q57, by omega, .inl qn⟩]
              have e3 := HN.out (bt s b - 48).toNat (b - a) HX.out.2.2.2.1 (by omega) (by omega)
              have w5_ : wrap64 (10 * (n : Int)) = 10 * (n : Int) := by have := e3.2; unfold wrap64; omega
              have w6_ : IntKind.u8.wrap (bt s (b : Int) - 48) = bt s (b : Int) - 48 := IntWalk.u8_in _ (by omega)
              have w9_ : wrap64 (bt s (b : Int) - 48) = bt s (b : Int) - 48 := by unfold wrap64; omega
              have w7_ : wrap64 (10 * (n : Int) + (bt s (b : Int) - 48)) = 10 * (n : Int) + (bt s (b : Int) - 48) := by have := e3.2; unfold wrap64; omega
              have w8_ : wrap64 ((b : Int) + 1) = (b : Int) + 1 := by have := HS.out; unfold wrap64; omega
              have E3 := Aside0.mk e3.1
              clear e3
              go_upto_region 3 with fail
              refine start_ (n := 15) (S := fun w' => w'.cell? ⟨r, 0, none⟩ = some (.string s) ∧ w'.cell? ⟨r, 1, none⟩ = some (.int .i64 (b : Int)) ∧ w'.cell? ⟨r, 2, none⟩ = some (.bool true)) (ds := []) (pfx 0 15) (by kernel_rfl) rfl (by kernel_rfl) ⟨c0, c1, c2⟩ (fun hHeld => ?_)
              refine with_tabW tab57_3 bits57_3 (fun HT_ HW_ => ?_)
              refine pure_ (i := 0) (N := (some 70)) (v := ?_) (a' := ?_) (pfx 1 15) rfl rfl (any_of HT_.out (by kernel_rfl)) (fun _ _ _ h => h) (Or.inl ⟨by rfl, ?_⟩) ?_ ?_
              rotate_left
              · intro w'
                go_simp
                with_reducible rfl
              rotate_left
              · simp only [Act.put, List.setIfInBounds_toArray, List.set_cons_zero, List.set_cons_succ, i64_w, i32_w]
                rfl
              refine pure_ (i := 1) (N := (some 71)) (v := ?_) (a' := ?_) (pfx 2 15) rfl rfl (any_of HT_.out (by kernel_rfl)) (fun _ _ _ h => h) (Or.inl ⟨by rfl, ?_⟩) ?_ ?_
              rotate_left
              · intro w'
                go_simp
                with_reducible rfl
              rotate_left
              · simp only [Act.put, List.setIfInBounds_toArray, List.set_cons_zero, List.set_cons_succ, i64_w, i32_w]
                rfl
              refine pure_ (i := 2) (N := (some 72)) (v := ?_) (a' := ?_) (pfx 3 15) rfl rfl (any_of HT_.out (by kernel_rfl)) (fun _ _ _ h => h) (Or.inl ⟨by rfl, ?_⟩) ?_ ?_
              rotate_left
              · intro w'
                go_simp
                with_reducible rfl
              rotate_left
              · simp only [Act.put, List.setIfInBounds_toArray, List.set_cons_zero, List.set_cons_succ, i64_w, i32_w]
                rfl
              refine pure_ (i := 3) (N := (some 73)) (v := ?_) (a' := ?_) (pfx 4 15) rfl rfl (any_of HT_.out (by kernel_rfl)) (fun _ _ _ h => h) (Or.inl ⟨by rfl, ?_⟩) ?_ ?_
              rotate_left
              · intro w'
                go_simp
                with_reducible rfl
              rotate_left
              · simp only [Act.put, List.setIfInBounds_toArray, List.set_cons_zero, List.set_cons_succ, i64_w, i32_w]
                rfl
              refine pure_ (i := 4) (N := (some 74)) (v := ?_) (a' := ?_) (pfx 5 15) rfl rfl (any_of HT_.out (by kernel_rfl)) (fun _ _ _ h => h) (Or.inl ⟨by rfl, ?_⟩) ?_ ?_
              rotate_left
              · intro w'
                go_simp
                with_reducible rfl
              rotate_left
              · simp only [Act.put, List.setIfInBounds_toArray, List.set_cons_zero, List.set_cons_succ, i64_w, i32_w]
                rfl
              refine take_ (i := 5) (N := (some 75)) (v := ?_) (a' := ?_) (pfx 6 15) rfl rfl (take_ofW HT_.out HW_.out (by kernel_rfl)) (fun _ _ _ h => h) (Or.inl ⟨by rfl, ?_⟩) hHeld ?_ ?_
              rotate_left
              · rintro w' ⟨s0, s1, s2⟩
                go_simp
                with_reducible rfl
              rotate_left
              · simp only [Act.put, List.setIfInBounds_toArray, List.set_cons_zero, List.set_cons_succ, i64_w, i32_w]
                rfl
              refine pure_ (i := 6) (N := (some 76)) (v := ?_) (a' := ?_) (pfx 7 15) rfl rfl (any_of HT_.out (by kernel_rfl)) (fun _ _ _ h => h) (Or.inl ⟨by rfl, ?_⟩) ?_ ?_
              rotate_left
              · intro w'
                go_simp
                with_reducible rfl
              rotate_left
              · simp only [Act.put, List.setIfInBounds_toArray, List.set_cons_zero, List.set_cons_succ, i64_w, i32_w]
                rfl
              refine pure_ (i := 7) (N := (some 77)) (v := ?_) (a' := ?_) (pfx 8 15) rfl rfl (any_of HT_.out (by kernel_rfl)) (fun _ _ _ h => h) (Or.inl ⟨by rfl, ?_⟩) ?_ ?_
              rotate_left
              · intro w'
                go_simp
                with_reducible rfl
              rotate_left
              · simp only [Act.put, List.setIfInBounds_toArray, List.set_cons_zero, List.set_cons_succ, i64_w, i32_w]
                rfl
              refine pure_ (i := 8) (N := (some 78)) (v := ?_) (a' := ?_) (pfx 9 15) rfl rfl (any_of HT_.out (by kernel_rfl)) (fun _ _ _ h => h) (Or.inl ⟨by rfl, ?_⟩) ?_ ?_
              rotate_left
              · intro w'
                go_simp
                with_reducible rfl
              rotate_left
              · simp only [Act.put, List.setIfInBounds_toArray, List.set_cons_zero, List.set_cons_succ, i64_w, i32_w]
                rfl
              refine take_ (i := 9) (N := (some 79)) (v := ?_) (a' := ?_) (pfx 10 15) rfl rfl (take_ofW HT_.out HW_.out (by kernel_rfl)) (fun _ _ _ h => h) (Or.inl ⟨by rfl, ?_⟩) hHeld ?_ ?_
              rotate_left
              · rintro w' ⟨s0, s1, s2⟩
                go_simp
                with_reducible rfl
              rotate_left
              · simp only [Act.put, List.setIfInBounds_toArray, List.set_cons_zero, List.set_cons_succ, i64_w, i32_w]
                rfl
              refine pure_ (i := 10) (N := (some 80)) (v := ?_) (a' := ?_) (pfx 11 15) rfl rfl (any_of HT_.out (by kernel_rfl)) (fun _ _ _ h => h) (Or.inl ⟨by rfl, ?_⟩) ?_ ?_
              rotate_left
              · intro w'
                go_simp
                with_reducible rfl
              rotate_left
              · simp only [Act.put, List.setIfInBounds_toArray, List.set_cons_zero, List.set_cons_succ, i64_w, i32_w]
                rfl
              refine pure_ (i := 11) (N := (some 81)) (v := ?_) (a' := ?_) (pfx 12 15) rfl rfl (any_of HT_.out (by kernel_rfl)) (fun _ _ _ h => h) (Or.inl ⟨by rfl, ?_⟩) ?_ ?_
              rotate_left
              · intro w'
                go_simp
                with_reducible rfl
              rotate_left
              · simp only [Act.put, List.setIfInBounds_toArray, List.set_cons_zero, List.set_cons_succ, i64_w, i32_w]
                rfl
              refine pure_ (i := 12) (N := (some 82)) (v := ?_) (a' := ?_) (pfx 13 15) rfl rfl (any_of HT_.out (by kernel_rfl)) (fun _ _ _ h => h) (Or.inl ⟨by rfl, ?_⟩) ?_ ?_
              rotate_left
              · intro w'
                go_simp
                with_reducible rfl
              rotate_left
              · simp only [Act.put, List.setIfInBounds_toArray, List.set_cons_zero, List.set_cons_succ, i64_w, i32_w]
                rfl
              refine pure_ (i := 13) (N := (some 83)) (v := ?_) (a' := ?_) (pfx 14 15) rfl rfl (any_of HT_.out (by kernel_rfl)) (fun _ _ _ h => h) (Or.inl ⟨by rfl, ?_⟩) ?_ ?_
              rotate_left
              · intro w'
                go_simp
                with_reducible rfl
              rotate_left
              · simp only [Act.put, List.setIfInBounds_toArray, List.set_cons_zero, List.set_cons_succ, i64_w, i32_w]
                rfl
              refine pure_ (i := 14) (N := (some 4)) (v := ?_) (a' := ?_) (pfx 15 15) rfl rfl (any_of HT_.out (by kernel_rfl)) (fun _ _ _ h => h) (Or.inl ⟨by rfl, ?_⟩) ?_ ?_
              rotate_left
              · intro w'
                go_simp
                with_reducible rfl
              rotate_left
              · simp only [Act.put, List.setIfInBounds_toArray, List.set_cons_zero, List.set_cons_succ, i64_w, i32_w]
                rfl
              refine done_ (done_of HT_.out (by kernel_rfl)) ?_
              go_wp2
              go_roundg m
              case measure => go_light; omega
              case rel =>
                go_light
                clear w4_ w5_ w6_ w7_ w8_ w9_ x2
                refine ⟨b + 1, 10 * n + (bt s b - 48).toNat, ?_, ⟨by have := HX.out.1; omega, by have := HX.out.2.1; omega, by omega, ?_, e1⟩, ⟨(HR.out.to _ (by omega)).drew.drew⟩, ⟨Lib.Hx.grownBy_drew (Lib.Hx.grownBy_drew (Lib.Hx.grownBy_set HG.out ⟨r, 1, none⟩ rfl _))⟩⟩
                · simp only [Value.int.injEq, true_and]
                  omega
                · rw [show b + 1 - a = b - a + 1 by have := HX.out.2.1; omega]
                  exact E3.out
            · have qn' : ¬ (n : Int) > 0 := by omega
              refine pure_ (i := 51) (N := (some 60)) (v := ?_) (a' := ?_) (pfx 52 61) rfl rfl (any_of HT_.out (by kernel_rfl)) (fun _ _ _ h => h) (Or.inl ⟨by rfl, ?_⟩) ?_ ?_
              rotate_left
              · intro w'
                go_simp
                with_reducible rfl
              rotate_left
              · simp only [Act.put, List.setIfInBounds_toArray, List.set_cons_zero, List.set_cons_succ, i64_w, i32_w]
                rfl
              refine pure_ (i := 52) (N := (some 61)) (v := ?_) (a' := ?_) (pfx 53 61) rfl rfl (any_of HT_.out (by kernel_rfl)) (fun _ _ _ h => h) (Or.inl ⟨by rfl, ?_⟩) ?_ ?_
              rotate_left
              · intro w'
                go_simp
                with_reducible rfl
              rotate_left
              · simp only [Act.put, List.setIfInBounds_toArray, List.set_cons_zero, List.set_cons_succ, i64_w, i32_w]
                rfl
              refine pure_ (i := 53) (N := (some 62)) (v := ?_) (a' := ?_) (pfx 54 61) rfl rfl (any_of HT_.out (by kernel_rfl)) (fun _ _ _ h => h) (Or.inl ⟨by rfl, ?_⟩) ?_ ?_
              rotate_left
              · intro w'
                go_simp
                with_reducible rfl
              rotate_left
              · simp only [Act.put, List.setIfInBounds_toArray, List.set_cons_zero, List.set_cons_succ, i64_w, i32_w]
                rfl
              refine pure_ (i := 54) (N := (some 63)) (v := ?_) (a' := ?_) (pfx 55 61) rfl rfl (any_of HT_.out (by kernel_rfl)) (fun _ _ _ h => h) (Or.inl ⟨by rfl, ?_⟩) ?_ ?_
              rotate_left
              · intro w'
                go_simp
                with_reducible rfl
              rotate_left
              · simp only [Act.put, List.setIfInBounds_toArray, List.set_cons_zero, List.set_cons_succ, i64_w, i32_w]
                rfl
              refine pure_ (i := 55) (N := (some 64)) (v := ?_) (a' := ?_) (pfx 56 61) rfl rfl (any_of HT_.out (by kernel_rfl)) (fun _ _ _ h => h) (Or.inl ⟨by rfl, ?_⟩) ?_ ?_
              rotate_left
              · intro w'
                go_simp
                with_reducible rfl
              rotate_left
              · simp only [Act.put, List.setIfInBounds_toArray, List.set_cons_zero, List.set_cons_succ, i64_w, i32_w]
                rfl
              refine take_ (i := 56) (N := (some 65)) (v := ?_) (a' := ?_) (pfx 57 61) rfl rfl (take_ofW HT_.out HW_.out (by kernel_rfl)) (fun _ _ _ h => h) (Or.inl ⟨by rfl, ?_⟩) hHeld ?_ ?_
              rotate_left
              · rintro w' ⟨s0, s1, s2⟩
                go_simp
                with_reducible rfl
              rotate_left
              · simp only [Act.put, List.setIfInBounds_toArray, List.set_cons_zero, List.set_cons_succ, i64_w, i32_w]
                rfl
              refine pure_ (i := 57) (N := (some 66)) (v := ?_) (a' := ?_) (pfx 58 61) rfl rfl (any_of HT_.out (by kernel_rfl)) (fun _ _ _ h => h) (Or.inl ⟨by rfl, ?_⟩) ?_ ?_
              rotate_left
              · intro w'
                go_simp
                with_reducible rfl
              rotate_left
              · simp only [Act.put, List.setIfInBounds_toArray, List.set_cons_zero, List.set_cons_succ, i64_w, i32_w]
                rfl
              by_cases qf : b = a
              · have qf' : ((b : Int) == (a : Int)) = true := by simp [qf]
                have QF := Aside0.mk qf
                clear qf
                refine pure_ (i := 58) (N := (some 67)) (v := ?_) (a' := ?_) (pfx 59 61) rfl rfl (any_of HT_.out (by kernel_rfl)) (fun _ _ _ h => h) (Or.inl ⟨by rfl, ?_⟩) ?_ ?_
                rotate_left
                · intro w'
                  go_simp
                  with_reducible rfl
                rotate_left
                · simp only [Act.put, List.setIfInBounds_toArray, List.set_cons_zero, List.set_cons_succ, i64_w, i32_w]
                  rfl
                refine pure_ (i := 59) (N := (some 68)) (v := ?_) (a' := ?_) (pfx 60 61) rfl rfl (any_of HT_.out (by kernel_rfl)) (fun _ _ _ h => h) (Or.inl ⟨by rfl, ?_⟩) ?_ ?_
                rotate_left
                · intro w'
                  go_simp
                  with_reducible rfl
                rotate_left
                · simp only [Act.put, List.setIfInBounds_toArray, List.set_cons_zero, List.set_cons_succ, i64_w, i32_w]
                  rfl
                refine pure_ (i := 60) (N := (some 69)) (v := ?_) (a' := ?_) (pfx 61 61) rfl rfl (any_of HT_.out (by kernel_rfl)) (fun _ _ _ h => h) (Or.inl ⟨by rfl, ?_⟩) ?_ ?_
                rotate_left
                · intro w'
                  go_simp
                  with_reducible rfl
                rotate_left
                · simp only [Act.put, List.setIfInBounds_toArray, List.set_cons_zero, List.set_cons_succ, i64_w, i32_w]
                  rfl
                refine done_ (done_of HT_.out (by kernel_rfl)) ?_
                obtain ⟨m, rfl⟩ : ∃ d, gk = d + 1 := ⟨gk - 1, by have := HX.out.1; omega⟩
                have e1 : nm s a m (b + 1) (10 * n + (bt s b - 48).toNat) = R := by rw [← HX.out.2.2.2.2, nm, if_pos ⟨q48, q57, by omega, .inr QF.out⟩]
                have e3 := HN.out (bt s b - 48).toNat (b - a) HX.out.2.2.2.1 (by omega) (by omega)
                have w5_ : wrap64 (10 * (n : Int)) = 10 * (n : Int) := by have := e3.2; unfold wrap64; omega
                have w6_ : IntKind.u8.wrap (bt s (b : Int) - 48) = bt s (b : Int) - 48 := IntWalk.u8_in _ (by omega)
                have w9_ : wrap64 (bt s (b : Int) - 48) = bt s (b : Int) - 48 := by unfold wrap64; omega
                have w7_ : wrap64 (10 * (n : Int) + (bt s (b : Int) - 48)) = 10 * (n : Int) + (bt s (b : Int) - 48) := by have := e3.2; unfold wrap64; omega
                have w8_ : wrap64 ((b : Int) + 1) = (b : Int) + 1 := by have := HS.out; unfold wrap64; omega
                have E3 := Aside0.mk e3.1
                clear e3
                go_upto_region 3 with fail
                refine start_ (n := 15) (S := fun w' => w'.cell? ⟨r, 0, none⟩ = some (.string s) ∧ w'.cell? ⟨r, 1, none⟩ = some (.int .i64 (b : Int)) ∧ w'.cell? ⟨r, 2, none⟩ = some (.bool true)) (ds := []) (pfx 0 15) (by kernel_rfl) rfl (by kernel_rfl) ⟨c0, c1, c2⟩ (fun hHeld => ?_)
                refine with_tabW tab57_3 bits57_3 (fun HT_ HW_ => ?_)
                refine pure_ (i := 0) (N := (some 70)) (v := ?_) (a' := ?_) (pfx 1 15) rfl rfl (any_of HT_.out (by kernel_rfl)) (fun _ _ _ h => h) (Or.inl ⟨by rfl, ?_⟩) ?_ ?_
                rotate_left
                · intro w'
                  go_simp
                  with_reducible rfl
                rotate_left
                · simp only [Act.put, List.setIfInBounds_toArray, List.set_cons_zero, List.set_cons_succ, i64_w, i32_w]
                  rfl
                refine pure_ (i := 1) (N := (some 71)) (v := ?_) (a' := ?_) (pfx 2 15) rfl rfl (any_of HT_.out (by kernel_rfl)) (fun _ _ _ h => h) (Or.inl ⟨by rfl, ?_⟩) ?_ ?_
                rotate_left
                · intro w'
                  go_simp
                  with_reducible rfl
                rotate_left
                · simp only [Act.put, List.setIfInBounds_toArray, List.set_cons_zero, List.set_cons_succ, i64_w, i32_w]
                  rfl
                refine pure_ (i := 2) (N := (some 72)) (v := ?_) (a' := ?_) (pfx 3 15) rfl rfl (any_of HT_.out (by kernel_rfl)) (fun _ _ _ h => h) (Or.inl ⟨by rfl, ?_⟩) ?_ ?_
                rotate_left
                · intro w'
                  go_simp
                  with_reducible rfl
                rotate_left
                · simp only [Act.put, List.setIfInBounds_toArray, List.set_cons_zero, List.set_cons_succ, i64_w, i32_w]
                  rfl
                refine pure_ (i := 3) (N := (some 73)) (v := ?_) (a' := ?_) (pfx 4 15) rfl rfl (any_of HT_.out (by kernel_rfl)) (fun _ _ _ h => h) (Or.inl ⟨by rfl, ?_⟩) ?_ ?_
                rotate_left
                · intro w'
                  go_simp
                  with_reducible rfl
                rotate_left
                · simp only [Act.put, List.setIfInBounds_toArray, List.set_cons_zero, List.set_cons_succ, i64_w, i32_w]
                  rfl
                refine pure_ (i := 4) (N := (some 74)) (v := ?_) (a' := ?_) (pfx 5 15) rfl rfl (any_of HT_.out (by kernel_rfl)) (fun _ _ _ h => h) (Or.inl ⟨by rfl, ?_⟩) ?_ ?_
                rotate_left
                · intro w'
                  go_simp
                  with_reducible rfl
                rotate_left
                · simp only [Act.put, List.setIfInBounds_toArray, List.set_cons_zero, List.set_cons_succ, i64_w, i32_w]
                  rfl
                refine take_ (i := 5) (N := (some 75)) (v := ?_) (a' := ?_) (pfx 6 15) rfl rfl (take_ofW HT_.out HW_.out (by kernel_rfl)) (fun _ _ _ h => h) (Or.inl ⟨by rfl, ?_⟩) hHeld ?_ ?_
                rotate_left
                · rintro w' ⟨s0, s1, s2⟩
                  go_simp
                  with_reducible rfl
                rotate_left
                · simp only [Act.put, List.setIfInBounds_toArray, List.set_cons_zero, List.set_cons_succ, i64_w, i32_w]
                  rfl
                refine pure_ (i := 6) (N := (some 76)) (v := ?_) (a' := ?_) (pfx 7 15) rfl rfl (any_of HT_.out (by kernel_rfl)) (fun _ _ _ h => h) (Or.inl ⟨by rfl, ?_⟩) ?_ ?_
                rotate_left
                · intro w'
                  go_simp
                  with_reducible rfl
                rotate_left
                · simp only [Act.put, List.setIfInBounds_toArray, List.set_cons_zero, List.set_cons_succ, i64_w, i32_w]
                  rfl
                refine pure_ (i := 7) (N := (some 77)) (v := ?_) (a' := ?_) (pfx 8 15) rfl rfl (any_of HT_.out (by kernel_rfl)) (fun _ _ _ h => h) (Or.inl ⟨by rfl, ?_⟩) ?_ ?_
                rotate_left
                · intro w'
                  go_simp
                  with_reducible rfl
                rotate_left
                · simp only [Act.put, List.setIfInBounds_toArray, List.set_cons_zero, List.set_cons_succ, i64_w, i32_w]
                  rfl
                refine pure_ (i := 8) (N := (some 78)) (v := ?_) (a' := ?_) (pfx 9 15) rfl rfl (any_of HT_.out (by kernel_rfl)) (fun _ _ _ h => h) (Or.inl ⟨by rfl, ?_⟩) ?_ ?_
                rotate_left
                · intro w'
                  go_simp
                  with_reducible rfl
                rotate_left
                · simp only [Act.put, List.setIfInBounds_toArray, List.set_cons_zero, List.set_cons_succ, i64_w, i32_w]
                  rfl
                refine take_ (i := 9) (N := (some 79)) (v := ?_) (a' := ?_) (pfx 10 15) rfl rfl (take_ofW HT_.out HW_.out (by kernel_rfl)) (fun _ _ _ h => h) (Or.inl ⟨by rfl, ?_⟩) hHeld ?_ ?_
                rotate_left
                · rintro w' ⟨s0, s1, s2⟩
                  go_simp
                  with_reducible rfl
                rotate_left
                · simp only [Act.put, List.setIfInBounds_toArray, List.set_cons_zero, List.set_cons_succ, i64_w, i32_w]
                  rfl
                refine pure_ (i := 10) (N := (some 80)) (v := ?_) (a' := ?_) (pfx 11 15) rfl rfl (any_of HT_.out (by kernel_rfl)) (fun _ _ _ h => h) (Or.inl ⟨by rfl, ?_⟩) ?_ ?_
                rotate_left
                · intro w'
                  go_simp
                  with_reducible rfl
                rotate_left
                · simp only [Act.put, List.setIfInBounds_toArray, List.set_cons_zero, List.set_cons_succ, i64_w, i32_w]
                  rfl
                refine pure_ (i := 11) (N := (some 81)) (v := ?_) (a' := ?_) (pfx 12 15) rfl rfl (any_of HT_.out (by kernel_rfl)) (fun _ _ _ h => h) (Or.inl ⟨by rfl, ?_⟩) ?_ ?_
                rotate_left
                · intro w'
                  go_simp
                  with_reducible rfl
                rotate_left
                · simp only [Act.put, List.setIfInBounds_toArray, List.set_cons_zero, List.set_cons_succ, i64_w, i32_w]
                  rfl
                refine pure_ (i := 12) (N := (some 82)) (v := ?_) (a' := ?_) (pfx 13 15) rfl rfl (any_of HT_.out (by kernel_rfl)) (fun _ _ _ h => h) (Or.inl ⟨by rfl, ?_⟩) ?_ ?_
                rotate_left
                · intro w'
                  go_simp
                  with_reducible rfl
                rotate_left
                · simp only [Act.put, List.setIfInBounds_toArray, List.set_cons_zero, List.set_cons_succ, i64_w, i32_w]
                  rfl
                refine pure_ (i := 13) (N := (some 83)) (v := ?_) (a' := ?_) (pfx 14 15) rfl rfl (any_of HT_.out (by kernel_rfl)) (fun _ _ _ h => h) (Or.inl ⟨by rfl, ?_⟩) ?_ ?_
                rotate_left
                · intro w'
                  go_simp
                  with_reducible rfl
                rotate_left
                · simp only [Act.put, List.setIfInBounds_toArray, List.set_cons_zero, List.set_cons_succ, i64_w, i32_w]
                  rfl
                refine pure_ (i := 14) (N := (some 4)) (v := ?_) (a' := ?_) (pfx 15 15) rfl rfl (any_of HT_.out (by kernel_rfl)) (fun _ _ _ h => h) (Or.inl ⟨by rfl, ?_⟩) ?_ ?_
                rotate_left
                · intro w'
                  go_simp
                  with_reducible rfl
                rotate_left
                · simp only [Act.put, List.setIfInBounds_toArray, List.set_cons_zero, List.set_cons_succ, i64_w, i32_w]
                  rfl
                refine done_ (done_of HT_.out (by kernel_rfl)) ?_
                go_wp2
                go_roundg m
                case measure => go_light; omega
                case rel =>
                  go_light
                  clear w4_ w5_ w6_ w7_ w8_ w9_ x2
                  refine ⟨b + 1, 10 * n + (bt s b - 48).toNat, ?_, ⟨by have := HX.out.1; omega, by have := HX.out.2.1; omega, by omega, ?_, e1⟩, ⟨(HR.out.to _ (by omega)).drew.drew⟩, ⟨Lib.Hx.grownBy_drew (Lib.Hx.grownBy_drew (Lib.Hx.grownBy_set HG.out ⟨r, 1, none⟩ rfl _))⟩⟩
                  · simp only [Value.int.injEq, true_and]
                    omega
                  · rw [show b + 1 - a = b - a + 1 by have := HX.out.2.1; omega]
                    exact E3.out
              · have qf' : ((b : Int) == (a : Int)) = false := beqN qf
                have QF := Aside0.mk qf
                clear qf
                refine pure_ (i := 58) (N := (some 67)) (v := ?_) (a' := ?_) (pfx 59 61) rfl rfl (any_of HT_.out (by kernel_rfl)) (fun _ _ _ h => h) (Or.inl ⟨by rfl, ?_⟩) ?_ ?_
                rotate_left
                · intro w'
                  go_simp
                  with_reducible rfl
                rotate_left
                · simp only [Act.put, List.setIfInBounds_toArray, List.set_cons_zero, List.set_cons_succ, i64_w, i32_w]
                  rfl
                refine pure_ (i := 59) (N := (some 68)) (v := ?_) (a' := ?_) (pfx 60 61) rfl rfl (any_of HT_.out (by kernel_rfl)) (fun _ _ _ h => h) (Or.inl ⟨by rfl, ?_⟩) ?_ ?_
                rotate_left
                · intro w'
                  go_simp
                  with_reducible rfl
                rotate_left
                · simp only [Act.put, List.setIfInBounds_toArray, List.set_cons_zero, List.set_cons_succ, i64_w, i32_w]
                  rfl
                refine pure_ (i := 60) (N := (some 69)) (v := ?_) (a' := ?_) (pfx 61 61) rfl rfl (any_of HT_.out (by kernel_rfl)) (fun _ _ _ h => h) (Or.inl ⟨by rfl, ?_⟩) ?_ ?_
                rotate_left
                · intro w'
                  go_simp
                  with_reducible rfl
                rotate_left
                · simp only [Act.put, List.setIfInBounds_toArray, List.set_cons_zero, List.set_cons_succ, i64_w, i32_w]
                  rfl
                have e1 : R = (b, n) := by rw [← HX.out.2.2.2.2]; obtain ⟨m, hm⟩ : ∃ d, gk = d + 1 := ⟨gk - 1, by have := HX.out.1; omega⟩; rw [hm, nm, if_neg (fun h => h.2.2.2.elim qn QF.out)]
                refine done_ (done_of HT_.out (by kernel_rfl)) ?_
                subst e1
                have qe := QF.out
                have qe' : ((b : Int) == (a : Int)) = false := beqN qe
                have qd := decide_eq_true (show b ≠ a from qe)
                clear qe
                go_wp2
                go_ret
                exact ⟨rfl, HR.out.drew, Lib.Hx.grownBy_drew HG.out⟩
          · refine pure_ (i := 47) (N := (some 56)) (v := ?_) (a' := ?_) (pfx 48 61) rfl rfl (any_of HT_.out (by kernel_rfl)) (fun _ _ _ h => h) (Or.inl ⟨by rfl, ?_⟩) ?_ ?_
            rotate_left
            · intro w'
              go_simp
              with_reducible rfl
            rotate_left
            · simp only [Act.put, List.setIfInBounds_toArray, List.set_cons_zero, List.set_cons_succ, i64_w, i32_w]
              rfl
            refine pure_ (i := 48) (N := (some 57)) (v := ?_) (a' := ?_) (pfx 49 61) rfl rfl (any_of HT_.out (by kernel_rfl)) (fun _ _ _ h => h) (Or.inl ⟨by rfl, ?_⟩) ?_ ?_
            rotate_left
            · intro w'
              go_simp
              with_reducible rfl
            rotate_left
            · simp only [Act.put, List.setIfInBounds_toArray, List.set_cons_zero, List.set_cons_succ, i64_w, i32_w]
              rfl
            refine pure_ (i := 49) (N := (some 58)) (v := ?_) (a' := ?_) (pfx 50 61) rfl rfl (any_of HT_.out (by kernel_rfl)) (fun _ _ _ h => h) (Or.inl ⟨by rfl, ?_⟩) ?_ ?_
            rotate_left
            · intro w'
              go_simp
              with_reducible rfl
            rotate_left
            · simp only [Act.put, List.setIfInBounds_toArray, List.set_cons_zero, List.set_cons_succ, i64_w, i32_w]
              rfl
            refine pure_ (i := 50) (N := (some 59)) (v := undef) (a' := ?_) (pfx 51 61) rfl rfl (any_of HT_.out (by kernel_rfl)) (fun _ _ _ h => h) (Or.inr ⟨by rfl, rfl⟩) ?_ ?_
            rotate_left
            · simp only [Act.put, List.setIfInBounds_toArray, List.set_cons_zero, List.set_cons_succ, i64_w, i32_w]
              rfl
            refine pure_ (i := 51) (N := (some 60)) (v := undef) (a' := ?_) (pfx 52 61) rfl rfl (any_of HT_.out (by kernel_rfl)) (fun _ _ _ h => h) (Or.inr ⟨by rfl, rfl⟩) ?_ ?_
            rotate_left
            · simp only [Act.put, List.setIfInBounds_toArray, List.set_cons_zero, List.set_cons_succ, i64_w, i32_w]
              rfl
            refine pure_ (i := 52) (N := (some 61)) (v := undef) (a' := ?_) (pfx 53 61) rfl rfl (any_of HT_.out (by kernel_rfl)) (fun _ _ _ h => h) (Or.inr ⟨by rfl, rfl⟩) ?_ ?_
            rotate_left
            · simp only [Act.put, List.setIfInBounds_toArray, List.set_cons_zero, List.set_cons_succ, i64_w, i32_w]
              rfl
            refine pure_ (i := 53) (N := (some 62)) (v := undef) (a' := ?_) (pfx 54 61) rfl rfl (any_of HT_.out (by kernel_rfl)) (fun _ _ _ h => h) (Or.inr ⟨by rfl, rfl⟩) ?_ ?_
            rotate_left
            · simp only [Act.put, List.setIfInBounds_toArray, List.set_cons_zero, List.set_cons_succ, i64_w, i32_w]
              rfl
            refine pure_ (i := 54) (N := (some 63)) (v := undef) (a' := ?_) (pfx 55 61) rfl rfl (any_of HT_.out (by kernel_rfl)) (fun _ _ _ h => h) (Or.inr ⟨by rfl, rfl⟩) ?_ ?_
            rotate_left
            · simp only [Act.put, List.setIfInBounds_toArray, List.set_cons_zero, List.set_cons_succ, i64_w, i32_w]
              rfl
            refine pure_ (i := 55) (N := (some 64)) (v := undef) (a' := ?_) (pfx 56 61) rfl rfl (any_of HT_.out (by kernel_rfl)) (fun _ _ _ h => h) (Or.inr ⟨by rfl, rfl⟩) ?_ ?_
            rotate_left
            · simp only [Act.put, List.setIfInBounds_toArray, List.set_cons_zero, List.set_cons_succ, i64_w, i32_w]
              rfl
            refine pure_ (i := 56) (N := (some 65)) (v := undef) (a' := ?_) (pfx 57 61) rfl rfl (any_of HT_.out (by kernel_rfl)) (fun _ _ _ h => h) (Or.inr ⟨by rfl, rfl⟩) ?_ ?_
            rotate_left
            · simp only [Act.put, List.setIfInBounds_toArray, List.set_cons_zero, List.set_cons_succ, i64_w, i32_w]
              rfl
            refine pure_ (i := 57) (N := (some 66)) (v := undef) (a' := ?_) (pfx 58 61) rfl rfl (any_of HT_.out (by kernel_rfl)) (fun _ _ _ h => h) (Or.inr ⟨by rfl, rfl⟩) ?_ ?_
            rotate_left
            · simp only [Act.put, List.setIfInBounds_toArray, List.set_cons_zero, List.set_cons_succ, i64_w, i32_w]
              rfl
            refine pure_ (i := 58) (N := (some 67)) (v := undef) (a' := ?_) (pfx 59 61) rfl rfl (any_of HT_.out (by kernel_rfl)) (fun _ _ _ h => h) (Or.inr ⟨by rfl, rfl⟩) ?_ ?_
            rotate_left
            · simp only [Act.put, List.setIfInBounds_toArray, List.set_cons_zero, List.set_cons_succ, i64_w, i32_w]
              rfl
            refine pure_ (i := 59) (N := (some 68)) (v := undef) (a' := ?_) (pfx 60 61) rfl rfl (any_of HT_.out (by kernel_rfl)) (fun _ _ _ h => h) (Or.inr ⟨by rfl, rfl⟩) ?_ ?_
            rotate_left
            · simp only [Act.put, List.setIfInBounds_toArray, List.set_cons_zero, List.set_cons_succ, i64_w, i32_w]
              rfl
            refine pure_ (i := 60) (N := (some 69)) (v := ?_) (a' := ?_) (pfx 61 61) rfl rfl (any_of HT_.out (by kernel_rfl)) (fun _ _ _ h => h) (Or.inl ⟨by rfl, ?_⟩) ?_ ?_
            rotate_left
            · intro w'
              go_simp
              with_reducible rfl
            rotate_left
            · simp only [Act.put, List.setIfInBounds_toArray, List.set_cons_zero, List.set_cons_succ, i64_w, i32_w]
              rfl
            have e1 : R = (b, n) := by rw [← HX.out.2.2.2.2]; obtain ⟨m, hm⟩ : ∃ d, gk = d + 1 := ⟨gk - 1, by have := HX.out.1; omega⟩; rw [hm, nm, if_neg (fun h => by have := h.2.2.1; omega)]
            refine done_ (done_of HT_.out (by kernel_rfl)) ?_
            subst e1
            by_cases qe : b = a
            · have qe' : ((b : Int) == (a : Int)) = true := by simp [qe]
              have qd := decide_eq_false (show ¬ b ≠ a from fun h => h qe)
              clear qe
              go_wp2
              go_ret
              exact ⟨rfl, HR.out.fail.drew, Lib.Hx.grownBy_drew (Lib.Hx.grownBy_set HG.out ⟨r, 2, none⟩ rfl _)⟩
            · have qe' : ((b : Int) == (a : Int)) = false := beqN qe
              have qd := decide_eq_true (show b ≠ a from qe)
              clear qe
              go_wp2
              go_ret
              exact ⟨rfl, HR.out.drew, Lib.Hx.grownBy_drew HG.out⟩
        · refine pure_ (i := 38) (N := (some 47)) (v := ?_) (a' := ?_) (pfx 39 61) rfl rfl (any_of HT_.out (by kernel_rfl)) (fun _ _ _ h => h) (Or.inl ⟨by rfl, ?_⟩) ?_ ?_
          rotate_left
          · intro w'
            go_simp
            with_reducible rfl
          rotate_left
          · simp only [Act.put, List.setIfInBounds_toArray, List.set_cons_zero, List.set_cons_succ, i64_w, i32_w]
            rfl
          refine pure_ (i := 39) (N := (some 48)) (v := ?_) (a' := ?_) (pfx 40 61) rfl rfl (any_of HT_.out (by kernel_rfl)) (fun _ _ _ h => h) (Or.inl ⟨by rfl, ?_⟩) ?_ ?_
          rotate_left
          · intro w'
            go_simp
            with_reducible rfl
          rotate_left
          · simp only [Act.put, List.setIfInBounds_toArray, List.set_cons_zero, List.set_cons_succ, i64_w, i32_w]
            rfl
          refine pure_ (i := 40) (N := (some 49)) (v := ?_) (a' := ?_) (pfx 41 61) rfl rfl (any_of HT_.out (by kernel_rfl)) (fun _ _ _ h => h) (Or.inl ⟨by rfl, ?_⟩) ?_ ?_
          rotate_left
          · intro w'
            go_simp
            with_reducible rfl
          rotate_left
          · simp only [Act.put, List.setIfInBounds_toArray, List.set_cons_zero, List.set_cons_succ, i64_w, i32_w]
            rfl
          refine pure_ (i := 41) (N := (some 50)) (v := undef) (a' := ?_) (pfx 42 61) rfl rfl (any_of HT_.out (by kernel_rfl)) (fun _ _ _ h => h) (Or.inr ⟨by rfl, rfl⟩) ?_ ?_
          rotate_left
          · simp only [Act.put, List.setIfInBounds_toArray, List.set_cons_zero, List.set_cons_succ, i64_w, i32_w]
            rfl
          refine pure_ (i := 42) (N := (some 51)) (v := undef) (a' := ?_) (pfx 43 61) rfl rfl (any_of HT_.out (by kernel_rfl)) (fun _ _ _ h => h) (Or.inr ⟨by rfl, rfl⟩) ?_ ?_
          rotate_left
          · simp only [Act.put, List.setIfInBounds_toArray, List.set_cons_zero, List.set_cons_succ, i64_w, i32_w]
            rfl
          refine pure_ (i := 43) (N := (some 52)) (v := undef) (a' := ?_) (pfx 44 61) rfl rfl (any_of HT_.out (by kernel_rfl)) (fun _ _ _ h => h) (Or.inr ⟨by rfl, rfl⟩) ?_ ?_
          rotate_left
          · simp only [Act.put, List.setIfInBounds_toArray, List.set_cons_zero, List.set_cons_succ, i64_w, i32_w]
            rfl
          refine pure_ (i := 44) (N := (some 53)) (v := undef) (a' := ?_) (pfx 45 61) rfl rfl (any_of HT_.out (by kernel_rfl)) (fun _ _ _ h => h) (Or.inr ⟨by rfl, rfl⟩) ?_ ?_
          rotate_left
          · simp only [Act.put, List.setIfInBounds_toArray, List.set_cons_zero, List.set_cons_succ, i64_w, i32_w]
            rfl
          refine pure_ (i := 45) (N := (some 54)) (v := undef) (a' := ?_) (pfx 46 61) rfl rfl (any_of HT_.out (by kernel_rfl)) (fun _ _ _ h => h) (Or.inr ⟨by rfl, rfl⟩) ?_ ?_
          rotate_left
          · simp only [Act.put, List.setIfInBounds_toArray, List.set_cons_zero, List.set_cons_succ, i64_w, i32_w]
            rfl
          refine pure_ (i := 46) (N := (some 55)) (v := undef) (a' := ?_) (pfx 47 61) rfl rfl (any_of HT_.out (by kernel_rfl)) (fun _ _ _ h => h) (Or.inr ⟨by rfl, rfl⟩) ?_ ?_
          rotate_left
          · simp only [Act.put, List.setIfInBounds_toArray, List.set_cons_zero, List.set_cons_succ, i64_w, i32_w]
            rfl
          refine pure_ (i := 47) (N := (some 56)) (v := undef) (a' := ?_) (pfx 48 61) rfl rfl (any_of HT_.out (by kernel_rfl)) (fun _ _ _ h => h) (Or.inr ⟨by rfl, rfl⟩) ?_ ?_
          rotate_left
          · simp only [Act.put, List.setIfInBounds_toArray, List.set_cons_zero, List.set_cons_succ, i64_w, i32_w]
            rfl
          refine pure_ (i := 48) (N := (some 57)) (v := ?_) (a' := ?_) (pfx 49 61) rfl rfl (any_of HT_.out (by kernel_rfl)) (fun _ _ _ h => h) (Or.inl ⟨by rfl, ?_⟩) ?_ ?_
          rotate_left
          · intro w'
            go_simp
            with_reducible rfl
          rotate_left
          · simp only [Act.put, List.setIfInBounds_toArray, List.set_cons_zero, List.set_cons_succ, i64_w, i32_w]
            rfl
          refine pure_ (i := 49) (N := (some 58)) (v := ?_) (a' := ?_) (pfx 50 61) rfl rfl (any_of HT_.out (by kernel_rfl)) (fun _ _ _ h => h) (Or.inl ⟨by rfl, ?_⟩) ?_ ?_
          rotate_left
          · intro w'
            go_simp
            with_reducible rfl
          rotate_left
          · simp only [Act.put, List.setIfInBounds_toArray, List.set_cons_zero, List.set_cons_succ, i64_w, i32_w]
            rfl
          refine pure_ (i := 50) (N := (some 59)) (v := undef) (a' := ?_) (pfx 51 61) rfl rfl (any_of HT_.out (by kernel_rfl)) (fun _ _ _ h => h) (Or.inr ⟨by rfl, rfl⟩) ?_ ?_
          rotate_left
          · simp only [Act.put, List.setIfInBounds_toArray, List.set_cons_zero, List.set_cons_succ, i64_w, i32_w]
            rfl
          refine pure_ (i := 51) (N := (some 60)) (v := undef) (a' := ?_) (pfx 52 61) rfl rfl (any_of HT_.out (by kernel_rfl)) (fun _ _ _ h => h) (Or.inr ⟨by rfl, rfl⟩) ?_ ?_
          rotate_left
          · simp only [Act.put, List.setIfInBounds_toArray, List.set_cons_zero, List.set_cons_succ, i64_w, i32_w]
            rfl
          refine pure_ (i := 52) (N := (some 61)) (v := undef) (a' := ?_) (pfx 53 61) rfl rfl (any_of HT_.out (by kernel_rfl)) (fun _ _ _ h => h) (Or.inr ⟨by rfl, rfl⟩) ?_ ?_
          rotate_left
          · simp only [Act.put, List.setIfInBounds_toArray, List.set_cons_zero, List.set_cons_succ, i64_w, i32_w]
            rfl
          refine pure_ (i := 53) (N := (some 62)) (v := undef) (a' := ?_) (pfx 54 61) rfl rfl (any_of HT_.out (by kernel_rfl)) (fun _ _ _ h => h) (Or.inr ⟨by rfl, rfl⟩) ?_ ?_
          rotate_left
          · simp only [Act.put, List.setIfInBounds_toArray, List.set_cons_zero, List.set_cons_succ, i64_w, i32_w]
            rfl
          refine pure_ (i := 54) (N := (some 63)) (v := undef) (a' := ?_) (pfx 55 61) rfl rfl (any_of HT_.out (by kernel_rfl)) (fun _ _ _ h => h) (Or.inr ⟨by rfl, rfl⟩) ?_ ?_
          rotate_left
          · simp only [Act.put, List.setIfInBounds_toArray, List.set_cons_zero, List.set_cons_succ, i64_w, i32_w]
            rfl
          refine pure_ (i := 55) (N := (some 64)) (v := undef) (a' := ?_) (pfx 56 61) rfl rfl (any_of HT_.out (by kernel_rfl)) (fun _ _ _ h => h) (Or.inr ⟨by rfl, rfl⟩) ?_ ?_
          rotate_left
          · simp only [Act.put, List.setIfInBounds_toArray, List.set_cons_zero, List.set_cons_succ, i64_w, i32_w]
            rfl
          refine pure_ (i := 56) (N := (some 65)) (v := undef) (a' := ?_) (pfx 57 61) rfl rfl (any_of HT_.out (by kernel_rfl)) (fun _ _ _ h => h) (Or.inr ⟨by rfl, rfl⟩) ?_ ?_
          rotate_left
          · simp only [Act.put, List.setIfInBounds_toArray, List.set_cons_zero, List.set_cons_succ, i64_w, i32_w]
            rfl
          refine pure_ (i := 57) (N := (some 66)) (v := undef) (a' := ?_) (pfx 58 61) rfl rfl (any_of HT_.out (by kernel_rfl)) (fun _ _ _ h => h) (Or.inr ⟨by rfl, rfl⟩) ?_ ?_
          rotate_left
          · simp only [Act.put, List.setIfInBounds_toArray, List.set_cons_zero, List.set_cons_succ, i64_w, i32_w]
            rfl
          refine pure_ (i := 58) (N := (some 67)) (v := undef) (a' := ?_) (pfx 59 61) rfl rfl (any_of HT_.out (by kernel_rfl)) (fun _ _ _ h => h) (Or.inr ⟨by rfl, rfl⟩) ?_ ?_
          rotate_left
          · simp only [Act.put, List.setIfInBounds_toArray, List.set_cons_zero, List.set_cons_succ, i64_w, i32_w]
            rfl
          refine pure_ (i := 59) (N := (some 68)) (v := undef) (a' := ?_) (pfx 60 61) rfl rfl (any_of HT_.out (by kernel_rfl)) (fun _ _ _ h => h) (Or.inr ⟨by rfl, rfl⟩) ?_ ?_
          rotate_left
          · simp only [Act.put, List.setIfInBounds_toArray, List.set_cons_zero, List.set_cons_succ, i64_w, i32_w]
            rfl
          refine pure_ (i := 60) (N := (some 69)) (v := ?_) (a' := ?_) (pfx 61 61) rfl rfl (any_of HT_.out (by kernel_rfl)) (fun _ _ _ h => h) (Or.inl ⟨by rfl, ?_⟩) ?_ ?_
          rotate_left
          · intro w'
            go_simp
            with_reducible rfl
          rotate_left
          · simp only [Act.put, List.setIfInBounds_toArray, List.set_cons_zero, List.set_cons_succ, i64_w, i32_w]
            rfl
          have e1 : R = (b, n) := by rw [← HX.out.2.2.2.2]; obtain ⟨m, hm⟩ : ∃ d, gk = d + 1 := ⟨gk - 1, by have := HX.out.1; omega⟩; rw [hm, nm, if_neg (fun h => q57 h.2.1)]
          refine done_ (done_of HT_.out (by kernel_rfl)) ?_
          subst e1
          by_cases qe : b = a
          · have qe' : ((b : Int) == (a : Int)) = true := by simp [qe]
            have qd := decide_eq_false (show ¬ b ≠ a from fun h => h qe)
            clear qe
            go_wp2
            go_ret
            exact ⟨rfl, HR.out.fail.drew, Lib.Hx.grownBy_drew (Lib.Hx.grownBy_set HG.out ⟨r, 2, none⟩ rfl _)⟩
          · have qe' : ((b : Int) == (a : Int)) = false := beqN qe
            have qd := decide_eq_true (show b ≠ a from qe)
            clear qe
            go_wp2
            go_ret
            exact ⟨rfl, HR.out.drew, Lib.Hx.grownBy_drew HG.out⟩
      · refine pure_ (i := 26) (N := (some 35)) (v := ?_) (a' := ?_) (pfx 27 61) rfl rfl (any_of HT_.out (by kernel_rfl)) (fun _ _ _ h => h) (Or.inl ⟨by rfl, ?_⟩) ?_ ?_
        rotate_left
        · intro w'
          go_simp
          with_reducible rfl
        rotate_left
        · simp only [Act.put, List.setIfInBounds_toArray, List.set_cons_zero, List.set_cons_succ, i64_w, i32_w]
          rfl
        refine pure_ (i := 27) (N := (some 36)) (v := ?_) (a' := ?_) (pfx 28 61) rfl rfl (any_of HT_.out (by kernel_rfl)) (fun _ _ _ h => h) (Or.inl ⟨by rfl, ?_⟩) ?_ ?_
        rotate_left
        · intro w'
          go_simp
          with_reducible rfl
        rotate_left
        · simp only [Act.put, List.setIfInBounds_toArray, List.set_cons_zero, List.set_cons_succ, i64_w, i32_w]
          rfl
        refine pure_ (i := 28) (N := (some 37)) (v := ?_) (a' := ?_) (pfx 29 61) rfl rfl (any_of HT_.out (by kernel_rfl)) (fun _ _ _ h => h) (Or.inl ⟨by rfl, ?_⟩) ?_ ?_
        rotate_left
        · intro w'
          go_simp
          with_reducible rfl
        rotate_left
        · simp only [Act.put, List.setIfInBounds_toArray, List.set_cons_zero, List.set_cons_succ, i64_w, i32_w]
          rfl
        refine pure_ (i := 29) (N := (some 38)) (v := undef) (a' := ?_) (pfx 30 61) rfl rfl (any_of HT_.out (by kernel_rfl)) (fun _ _ _ h => h) (Or.inr ⟨by rfl, rfl⟩) ?_ ?_
        rotate_left
        · simp only [Act.put, List.setIfInBounds_toArray, List.set_cons_zero, List.set_cons_succ, i64_w, i32_w]
          rfl
        refine pure_ (i := 30) (N := (some 39)) (v := undef) (a' := ?_) (pfx 31 61) rfl rfl (any_of HT_.out (by kernel_rfl)) (fun _ _ _ h => h) (Or.inr ⟨by rfl, rfl⟩) ?_ ?_
        rotate_left
        · simp only [Act.put, List.setIfInBounds_toArray, List.set_cons_zero, List.set_cons_succ, i64_w, i32_w]
          rfl
        refine pure_ (i := 31) (N := (some 40)) (v := undef) (a' := ?_) (pfx 32 61) rfl rfl (any_of HT_.out (by kernel_rfl)) (fun _ _ _ h => h) (Or.inr ⟨by rfl, rfl⟩) ?_ ?_
        rotate_left
        · simp only [Act.put, List.setIfInBounds_toArray, List.set_cons_zero, List.set_cons_succ, i64_w, i32_w]
          rfl
        refine pure_ (i := 32) (N := (some 41)) (v := undef) (a' := ?_) (pfx 33 61) rfl rfl (any_of HT_.out (by kernel_rfl)) (fun _ _ _ h => h) (Or.inr ⟨by rfl, rfl⟩) ?_ ?_
        rotate_left
        · simp only [Act.put, List.setIfInBounds_toArray, List.set_cons_zero, List.set_cons_succ, i64_w, i32_w]
          rfl
        refine pure_ (i := 33) (N := (some 42)) (v := undef) (a' := ?_) (pfx 34 61) rfl rfl (any_of HT_.out (by kernel_rfl)) (fun _ _ _ h => h) (Or.inr ⟨by rfl, rfl⟩) ?_ ?_
        rotate_left
        · simp only [Act.put, List.setIfInBounds_toArray, List.set_cons_zero, List.set_cons_succ, i64_w, i32_w]
          rfl
        refine pure_ (i := 34) (N := (some 43)) (v := undef) (a' := ?_) (pfx 35 61) rfl rfl (any_of HT_.out (by kernel_rfl)) (fun _ _ _ h => h) (Or.inr ⟨by rfl, rfl⟩) ?_ ?_
        rotate_left
        · simp only [Act.put, List.setIfInBounds_toArray, List.set_cons_zero, List.set_cons_succ, i64_w, i32_w]
          rfl
        refine pure_ (i := 35) (N := (some 44)) (v := undef) (a' := ?_) (pfx 36 61) rfl rfl (any_of HT_.out (by kernel_rfl)) (fun _ _ _ h => h) (Or.inr ⟨by rfl, rfl⟩) ?_ ?_
        rotate_left
        · simp only [Act.put, List.setIfInBounds_toArray, List.set_cons_zero, List.set_cons_succ, i64_w, i32_w]
          rfl
        refine pure_ (i := 36) (N := (some 45)) (v := undef) (a' := ?_) (pfx 37 61) rfl rfl (any_of HT_.out (by kernel_rfl)) (fun _ _ _ h => h) (Or.inr ⟨by rfl, rfl⟩) ?_ ?_
        rotate_left
        · simp only [Act.put, List.setIfInBounds_toArray, List.set_cons_zero, List.set_cons_succ, i64_w, i32_w]
          rfl
        refine pure_ (i := 37) (N := (some 46)) (v := undef) (a' := ?_) (pfx 38 61) rfl rfl (any_of HT_.out (by kernel_rfl)) (fun _ _ _ h => h) (Or.inr ⟨by rfl, rfl⟩) ?_ ?_
        rotate_left
        · simp only [Act.put, List.setIfInBounds_toArray, List.set_cons_zero, List.set_cons_succ, i64_w, i32_w]
          rfl
        refine pure_ (i := 38) (N := (some 47)) (v := undef) (a' := ?_) (pfx 39 61) rfl rfl (any_of HT_.out (by kernel_rfl)) (fun _ _ _ h => h) (Or.inr ⟨by rfl, rfl⟩) ?_ ?_
        rotate_left
        · simp only [Act.put, List.setIfInBounds_toArray, List.set_cons_zero, List.set_cons_succ, i64_w, i32_w]
          rfl
        refine pure_ (i := 39) (N := (some 48)) (v := ?_) (a' := ?_) (pfx 40 61) rfl rfl (any_of HT_.out (by kernel_rfl)) (fun _ _ _ h => h) (Or.inl ⟨by rfl, ?_⟩) ?_ ?_
        rotate_left
        · intro w'
          go_simp
          with_reducible rfl
        rotate_left
        · simp only [Act.put, List.setIfInBounds_toArray, List.set_cons_zero, List.set_cons_succ, i64_w, i32_w]
          rfl
        refine pure_ (i := 40) (N := (some 49)) (v := ?_) (a' := ?_) (pfx 41 61) rfl rfl (any_of HT_.out (by kernel_rfl)) (fun _ _ _ h => h) (Or.inl ⟨by rfl, ?_⟩) ?_ ?_
        rotate_left
        · intro w'
          go_simp
          with_reducible rfl
        rotate_left
        · simp only [Act.put, List.setIfInBounds_toArray, List.set_cons_zero, List.set_cons_succ, i64_w, i32_w]
          rfl
        refine pure_ (i := 41) (N := (some 50)) (v := undef) (a' := ?_) (pfx 42 61) rfl rfl (any_of HT_.out (by kernel_rfl)) (fun _ _ _ h => h) (Or.inr ⟨by rfl, rfl⟩) ?_ ?_
        rotate_left
        · simp only [Act.put, List.setIfInBounds_toArray, List.set_cons_zero, List.set_cons_succ, i64_w, i32_w]
          rfl
        refine pure_ (i := 42) (N := (some 51)) (v := undef) (a' := ?_) (pfx 43 61) rfl rfl (any_of HT_.out (by kernel_rfl)) (fun _ _ _ h => h) (Or.inr ⟨by rfl, rfl⟩) ?_ ?_
        rotate_left
        · simp only [Act.put, List.setIfInBounds_toArray, List.set_cons_zero, List.set_cons_succ, i64_w, i32_w]
          rfl
        refine pure_ (i := 43) (N := (some 52)) (v := undef) (a' := ?_) (pfx 44 61) rfl rfl (any_of HT_.out (by kernel_rfl)) (fun _ _ _ h => h) (Or.inr ⟨by rfl, rfl⟩) ?_ ?_
        rotate_left
        · simp only [Act.put, List.setIfInBounds_toArray, List.set_cons_zero, List.set_cons_succ, i64_w, i32_w]
          rfl
        refine pure_ (i := 44) (N := (some 53)) (v := undef) (a' := ?_) (pfx 45 61) rfl rfl (any_of HT_.out (by kernel_rfl)) (fun _ _ _ h => h) (Or.inr ⟨by rfl, rfl⟩) ?_ ?_
        rotate_left
        · simp only [Act.put, List.setIfInBounds_toArray, List.set_cons_zero, List.set_cons_succ, i64_w, i32_w]
          rfl
        refine pure_ (i := 45) (N := (some 54)) (v := undef) (a' := ?_) (pfx 46 61) rfl rfl (any_of HT_.out (by kernel_rfl)) (fun _ _ _ h => h) (Or.inr ⟨by rfl, rfl⟩) ?_ ?_
        rotate_left
        · simp only [Act.put, List.setIfInBounds_toArray, List.set_cons_zero, List.set_cons_succ, i64_w, i32_w]
          rfl
        refine pure_ (i := 46) (N := (some 55)) (v := undef) (a' := ?_) (pfx 47 61) rfl rfl (any_of HT_.out (by kernel_rfl)) (fun _ _ _ h => h) (Or.inr ⟨by rfl, rfl⟩) ?_ ?_
        rotate_left
        · simp only [Act.put, List.setIfInBounds_toArray, List.set_cons_zero, List.set_cons_succ, i64_w, i32_w]
          rfl
        refine pure_ (i := 47) (N := (some 56)) (v := undef) (a' := ?_) (pfx 48 61) rfl rfl (any_of HT_.out (by kernel_rfl)) (fun _ _ _ h => h) (Or.inr ⟨by rfl, rfl⟩) ?_ ?_
        rotate_left
        · simp only [Act.put, List.setIfInBounds_toArray, List.set_cons_zero, List.set_cons_succ, i64_w, i32_w]
          rfl
        refine pure_ (i := 48) (N := (some 57)) (v := ?_) (a' := ?_) (pfx 49 61) rfl rfl (any_of HT_.out (by kernel_rfl)) (fun _ _ _ h => h) (Or.inl ⟨by rfl, ?_⟩) ?_ ?_
        rotate_left
        · intro w'
          go_simp
          with_reducible rfl
        rotate_left
        · simp only [Act.put, List.setIfInBounds_toArray, List.set_cons_zero, List.set_cons_succ, i64_w, i32_w]
          rfl
        refine pure_ (i := 49) (N := (some 58)) (v := ?_) (a' := ?_) (pfx 50 61) rfl rfl (any_of HT_.out (by kernel_rfl)) (fun _ _ _ h => h) (Or.inl ⟨by rfl, ?_⟩) ?_ ?_
        rotate_left
        · intro w'
          go_simp
          with_reducible rfl
        rotate_left
        · simp only [Act.put, List.setIfInBounds_toArray, List.set_cons_zero, List.set_cons_succ, i64_w, i32_w]
          rfl
        refine pure_ (i := 50) (N := (some 59)) (v := undef) (a' := ?_) (pfx 51 61) rfl rfl (any_of HT_.out (by kernel_rfl)) (fun _ _ _ h => h) (Or.inr ⟨by rfl, rfl⟩) ?_ ?_
        rotate_left
        · simp only [Act.put, List.setIfInBounds_toArray, List.set_cons_zero, List.set_cons_succ, i64_w, i32_w]
          rfl
        refine pure_ (i := 51) (N := (some 60)) (v := undef) (a' := ?_) (pfx 52 61) rfl rfl (any_of HT_.out (by kernel_rfl)) (fun _ _ _ h => h) (Or.inr ⟨by rfl, rfl⟩) ?_ ?_
        rotate_left
        · simp only [Act.put, List.setIfInBounds_toArray, List.set_cons_zero, List.set_cons_succ, i64_w, i32_w]
          rfl
        refine pure_ (i := 52) (N := (some 61)) (v := undef) (a' := ?_) (pfx 53 61) rfl rfl (any_of HT_.out (by kernel_rfl)) (fun _ _ _ h => h) (Or.inr ⟨by rfl, rfl⟩) ?_ ?_
        rotate_left
        · simp only [Act.put, List.setIfInBounds_toArray, List.set_cons_zero, List.set_cons_succ, i64_w, i32_w]
          rfl
        refine pure_ (i := 53) (N := (some 62)) (v := undef) (a' := ?_) (pfx 54 61) rfl rfl (any_of HT_.out (by kernel_rfl)) (fun _ _ _ h => h) (Or.inr ⟨by rfl, rfl⟩) ?_ ?_
        rotate_left
        · simp only [Act.put, List.setIfInBounds_toArray, List.set_cons_zero, List.set_cons_succ, i64_w, i32_w]
          rfl
        refine pure_ (i := 54) (N := (some 63)) (v := undef) (a' := ?_) (pfx 55 61) rfl rfl (any_of HT_.out (by kernel_rfl)) (fun _ _ _ h => h) (Or.inr ⟨by rfl, rfl⟩) ?_ ?_
        rotate_left
        · simp only [Act.put, List.setIfInBounds_toArray, List.set_cons_zero, List.set_cons_succ, i64_w, i32_w]
          rfl
        refine pure_ (i := 55) (N := (some 64)) (v := undef) (a' := ?_) (pfx 56 61) rfl rfl (any_of HT_.out (by kernel_rfl)) (fun _ _ _ h => h) (Or.inr ⟨by rfl, rfl⟩) ?_ ?_
        rotate_left
        · simp only [Act.put, List.setIfInBounds_toArray, List.set_cons_zero, List.set_cons_succ, i64_w, i32_w]
          rfl
        refine pure_ (i := 56) (N := (some 65)) (v := undef) (a' := ?_) (pfx 57 61) rfl rfl (any_of HT_.out (by kernel_rfl)) (fun _ _ _ h => h) (Or.inr ⟨by rfl, rfl⟩) ?_ ?_
        rotate_left
        · simp only [Act.put, List.setIfInBounds_toArray, List.set_cons_zero, List.set_cons_succ, i64_w, i32_w]
          rfl
        refine pure_ (i := 57) (N := (some 66)) (v := undef) (a' := ?_) (pfx 58 61) rfl rfl (any_of HT_.out (by kernel_rfl)) (fun _ _ _ h => h) (Or.inr ⟨by rfl, rfl⟩) ?_ ?_
        rotate_left
        · simp only [Act.put, List.setIfInBounds_toArray, List.set_cons_zero, List.set_cons_succ, i64_w, i32_w]
          rfl
        refine pure_ (i := 58) (N := (some 67)) (v := undef) (a' := ?_) (pfx 59 61) rfl rfl (any_of HT_.out (by kernel_rfl)) (fun _ _ _ h => h) (Or.inr ⟨by rfl, rfl⟩) ?_ ?_
        rotate_left
        · simp only [Act.put, List.setIfInBounds_toArray, List.set_cons_zero, List.set_cons_succ, i64_w, i32_w]
          rfl
        refine pure_ (i := 59) (N := (some 68)) (v := undef) (a' := ?_) (pfx 60 61) rfl rfl (any_of HT_.out (by kernel_rfl)) (fun _ _ _ h => h) (Or.inr ⟨by rfl, rfl⟩) ?_ ?_
        rotate_left
        · simp only [Act.put, List.setIfInBounds_toArray, List.set_cons_zero, List.set_cons_succ, i64_w, i32_w]
          rfl
        refine pure_ (i := 60) (N := (some 69)) (v := ?_) (a' := ?_) (pfx 61 61) rfl rfl (any_of HT_.out (by kernel_rfl)) (fun _ _ _ h => h) (Or.inl ⟨by rfl, ?_⟩) ?_ ?_
        rotate_left
        · intro w'
          go_simp
          with_reducible rfl
        rotate_left
        · simp only [Act.put, List.setIfInBounds_toArray, List.set_cons_zero, List.set_cons_succ, i64_w, i32_w]
          rfl
        have e1 : R = (b, n) := by rw [← HX.out.2.2.2.2]; obtain ⟨m, hm⟩ : ∃ d, gk = d + 1 := ⟨gk - 1, by have := HX.out.1; omega⟩; rw [hm, nm, if_neg (fun h => q48 h.1)]
        refine done_ (done_of HT_.out (by kernel_rfl)) ?_
        subst e1
        by_cases qe : b = a
        · have qe' : ((b : Int) == (a : Int)) = true := by simp [qe]
          have qd := decide_eq_false (show ¬ b ≠ a from fun h => h qe)
          clear qe
          go_wp2
          go_ret
          exact ⟨rfl, HR.out.fail.drew, Lib.Hx.grownBy_drew (Lib.Hx.grownBy_set HG.out ⟨r, 2, none⟩ rfl _)⟩
        · have qe' : ((b : Int) == (a : Int)) = false := beqN qe
          have qd := decide_eq_true (show b ≠ a from qe)
          clear qe
          go_wp2
          go_ret
          exact ⟨rfl, HR.out.drew, Lib.Hx.grownBy_drew HG.out⟩
    · refine pure_ (i := 14) (N := (some 23)) (v := ?_) (a' := ?_) (pfx 15 61) rfl rfl (any_of HT_.out (by kernel_rfl)) (fun _ _ _ h => h) (Or.inl ⟨by rfl, ?_⟩) ?_ ?_
      rotate_left
      · intro w'
        go_simp
        with_reducible rfl
      rotate_left
      · simp only [Act.put, List.setIfInBounds_toArray, List.set_cons_zero, List.set_cons_succ, i64_w, i32_w]
        rfl
      refine pure_ (i := 15) (N := (some 24)) (v := ?_) (a' := ?_) (pfx 16 61) rfl rfl (any_of HT_.out (by kernel_rfl)) (fun _ _ _ h => h) (Or.inl ⟨by rfl, ?_⟩) ?_ ?_
      rotate_left
      · intro w'
        go_simp
        with_reducible rfl
      rotate_left
      · simp only [Act.put, List.setIfInBounds_toArray, List.set_cons_zero, List.set_cons_succ, i64_w, i32_w]
        rfl
      refine pure_ (i := 16) (N := (some 25)) (v := ?_) (a' := ?_) (pfx 17 61) rfl rfl (any_of HT_.out (by kernel_rfl)) (fun _ _ _ h => h) (Or.inl ⟨by rfl, ?_⟩) ?_ ?_
      rotate_left
      · intro w'
        go_simp
        with_reducible rfl
      rotate_left
      · simp only [Act.put, List.setIfInBounds_toArray, List.set_cons_zero, List.set_cons_succ, i64_w, i32_w]
        rfl
      refine pure_ (i := 17) (N := (some 26)) (v := undef) (a' := ?_) (pfx 18 61) rfl rfl (any_of HT_.out (by kernel_rfl)) (fun _ _ _ h => h) (Or.inr ⟨by rfl, rfl⟩) ?_ ?_
      rotate_left
      · simp only [Act.put, List.setIfInBounds_toArray, List.set_cons_zero, List.set_cons_succ, i64_w, i32_w]
        rfl
      refine pure_ (i := 18) (N := (some 27)) (v := undef) (a' := ?_) (pfx 19 61) rfl rfl (any_of HT_.out (by kernel_rfl)) (fun _ _ _ h => h) (Or.inr ⟨by rfl, rfl⟩) ?_ ?_
      rotate_left
      · simp only [Act.put, List.setIfInBounds_toArray, List.set_cons_zero, List.set_cons_succ, i64_w, i32_w]
        rfl
      refine pure_ (i := 19) (N := (some 28)) (v := undef) (a' := ?_) (pfx 20 61) rfl rfl (any_of HT_.out (by kernel_rfl)) (fun _ _ _ h => h) (Or.inr ⟨by rfl, rfl⟩) ?_ ?_
      rotate_left
      · simp only [Act.put, List.setIfInBounds_toArray, List.set_cons_zero, List.set_cons_succ, i64_w, i32_w]
        rfl
      refine pure_ (i := 20) (N := (some 29)) (v := undef) (a' := ?_) (pfx 21 61) rfl rfl (any_of HT_.out (by kernel_rfl)) (fun _ _ _ h => h) (Or.inr ⟨by rfl, rfl⟩) ?_ ?_
      rotate_left
      · simp only [Act.put, List.setIfInBounds_toArray, List.set_cons_zero, List.set_cons_succ, i64_w, i32_w]
        rfl
      refine pure_ (i := 21) (N := (some 30)) (v := undef) (a' := ?_) (pfx 22 61) rfl rfl (any_of HT_.out (by kernel_rfl)) (fun _ _ _ h => h) (Or.inr ⟨by rfl, rfl⟩) ?_ ?_
      rotate_left
      · simp only [Act.put, List.setIfInBounds_toArray, List.set_cons_zero, List.set_cons_succ, i64_w, i32_w]
        rfl
      refine pure_ (i := 22) (N := (some 31)) (v := undef) (a' := ?_) (pfx 23 61) rfl rfl (any_of HT_.out (by kernel_rfl)) (fun _ _ _ h => h) (Or.inr ⟨by rfl, rfl⟩) ?_ ?_
      rotate_left
      · simp only [Act.put, List.setIfInBounds_toArray, List.set_cons_zero, List.set_cons_succ, i64_w, i32_w]
        rfl
      refine pure_ (i := 23) (N := (some 32)) (v := undef) (a' := ?_) (pfx 24 61) rfl rfl (any_of HT_.out (by kernel_rfl)) (fun _ _ _ h => h) (Or.inr ⟨by rfl, rfl⟩) ?_ ?_
      rotate_left
      · simp only [Act.put, List.setIfInBounds_toArray, List.set_cons_zero, List.set_cons_succ, i64_w, i32_w]
        rfl
      refine pure_ (i := 24) (N := (some 33)) (v := undef) (a' := ?_) (pfx 25 61) rfl rfl (any_of HT_.out (by kernel_rfl)) (fun _ _ _ h => h) (Or.inr ⟨by rfl, rfl⟩) ?_ ?_
      rotate_left
      · simp only [Act.put, List.setIfInBounds_toArray, List.set_cons_zero, List.set_cons_succ, i64_w, i32_w]
        rfl
      refine pure_ (i := 25) (N := (some 34)) (v := undef) (a' := ?_) (pfx 26 61) rfl rfl (any_of HT_.out (by kernel_rfl)) (fun _ _ _ h => h) (Or.inr ⟨by rfl, rfl⟩) ?_ ?_
      rotate_left
      · simp only [Act.put, List.setIfInBounds_toArray, List.set_cons_zero, List.set_cons_succ, i64_w, i32_w]
        rfl
      refine pure_ (i := 26) (N := (some 35)) (v := undef) (a' := ?_) (pfx 27 61) rfl rfl (any_of HT_.out (by kernel_rfl)) (fun _ _ _ h => h) (Or.inr ⟨by rfl, rfl⟩) ?_ ?_
      rotate_left
      · simp only [Act.put, List.setIfInBounds_toArray, List.set_cons_zero, List.set_cons_succ, i64_w, i32_w]
        rfl
      refine pure_ (i := 27) (N := (some 36)) (v := ?_) (a' := ?_) (pfx 28 61) rfl rfl (any_of HT_.out (by kernel_rfl)) (fun _ _ _ h => h) (Or.inl ⟨by rfl, ?_⟩) ?_ ?_
      rotate_left
      · intro w'
        go_simp
        with_reducible rfl
      rotate_left
      · simp only [Act.put, List.setIfInBounds_toArray, List.set_cons_zero, List.set_cons_succ, i64_w, i32_w]
        rfl
      refine pure_ (i := 28) (N := (some 37)) (v := ?_) (a' := ?_) (pfx 29 61) rfl rfl (any_of HT_.out (by kernel_rfl)) (fun _ _ _ h => h) (Or.inl ⟨by rfl, ?_⟩) ?_ ?_
      rotate_left
      · intro w'
        go_simp
        with_reducible rfl
      rotate_left
      · simp only [Act.put, List.setIfInBounds_toArray, List.set_cons_zero, List.set_cons_succ, i64_w, i32_w]
        rfl
      refine pure_ (i := 29) (N := (some 38)) (v := undef) (a' := ?_) (pfx 30 61) rfl rfl (any_of HT_.out (by kernel_rfl)) (fun _ _ _ h => h) (Or.inr ⟨by rfl, rfl⟩) ?_ ?_
      rotate_left
      · simp only [Act.put, List.setIfInBounds_toArray, List.set_cons_zero, List.set_cons_succ, i64_w, i32_w]
        rfl
      refine pure_ (i := 30) (N := (some 39)) (v := undef) (a' := ?_) (pfx 31 61) rfl rfl (any_of HT_.out (by kernel_rfl)) (fun _ _ _ h => h) (Or.inr ⟨by rfl, rfl⟩) ?_ ?_
      rotate_left
      · simp only [Act.put, List.setIfInBounds_toArray, List.set_cons_zero, List.set_cons_succ, i64_w, i32_w]
        rfl
      refine pure_ (i := 31) (N := (some 40)) (v := undef) (a' := ?_) (pfx 32 61) rfl rfl (any_of HT_.out (by kernel_rfl)) (fun _ _ _ h => h) (Or.inr ⟨by rfl, rfl⟩) ?_ ?_
      rotate_left
      · simp only [Act.put, List.setIfInBounds_toArray, List.set_cons_zero, List.set_cons_succ, i64_w, i32_w]
        rfl
      refine pure_ (i := 32) (N := (some 41)) (v := undef) (a' := ?_) (pfx 33 61) rfl rfl (any_of HT_.out (by kernel_rfl)) (fun _ _ _ h => h) (Or.inr ⟨by rfl, rfl⟩) ?_ ?_
      rotate_left
      · simp only [Act.put, List.setIfInBounds_toArray, List.set_cons_zero, List.set_cons_succ, i64_w, i32_w]
        rfl
      refine pure_ (i := 33) (N := (some 42)) (v := undef) (a' := ?_) (pfx 34 61) rfl rfl (any_of HT_.out (by kernel_rfl)) (fun _ _ _ h => h) (Or.inr ⟨by rfl, rfl⟩) ?_ ?_
      rotate_left
      · simp only [Act.put, List.setIfInBounds_toArray, List.set_cons_zero, List.set_cons_succ, i64_w, i32_w]
        rfl
      refine pure_ (i := 34) (N := (some 43)) (v := undef) (a' := ?_) (pfx 35 61) rfl rfl (any_of HT_.out (by kernel_rfl)) (fun _ _ _ h => h) (Or.inr ⟨by rfl, rfl⟩) ?_ ?_
      rotate_left
      · simp only [Act.put, List.setIfInBounds_toArray, List.set_cons_zero, List.set_cons_succ, i64_w, i32_w]
        rfl
      refine pure_ (i := 35) (N := (some 44)) (v := undef) (a' := ?_) (pfx 36 61) rfl rfl (any_of HT_.out (by kernel_rfl)) (fun _ _ _ h => h) (Or.inr ⟨by rfl, rfl⟩) ?_ ?_
      rotate_left
      · simp only [Act.put, List.setIfInBounds_toArray, List.set_cons_zero, List.set_cons_succ, i64_w, i32_w]
        rfl
      refine pure_ (i := 36) (N := (some 45)) (v := undef) (a' := ?_) (pfx 37 61) rfl rfl (any_of HT_.out (by kernel_rfl)) (fun _ _ _ h => h) (Or.inr ⟨by rfl, rfl⟩) ?_ ?_
      rotate_left
      · simp only [Act.put, List.setIfInBounds_toArray, List.set_cons_zero, List.set_cons_succ, i64_w, i32_w]
        rfl
      refine pure_ (i := 37) (N := (some 46)) (v := undef) (a' := ?_) (pfx 38 61) rfl rfl (any_of HT_.out (by kernel_rfl)) (fun _ _ _ h => h) (Or.inr ⟨by rfl, rfl⟩) ?_ ?_
      rotate_left
      · simp only [Act.put, List.setIfInBounds_toArray, List.set_cons_zero, List.set_cons_succ, i64_w, i32_w]
        rfl
      refine pure_ (i := 38) (N := (some 47)) (v := undef) (a' := ?_) (pfx 39 61) rfl rfl (any_of HT_.out (by kernel_rfl)) (fun _ _ _ h => h) (Or.inr ⟨by rfl, rfl⟩) ?_ ?_
      rotate_left
      · simp only [Act.put, List.setIfInBounds_toArray, List.set_cons_zero, List.set_cons_succ, i64_w, i32_w]
        rfl
      refine pure_ (i := 39) (N := (some 48)) (v := ?_) (a' := ?_) (pfx 40 61) rfl rfl (any_of HT_.out (by kernel_rfl)) (fun _ _ _ h => h) (Or.inl ⟨by rfl, ?_⟩) ?_ ?_
      rotate_left
      · intro w'
        go_simp
        with_reducible rfl
      rotate_left
      · simp only [Act.put, List.setIfInBounds_toArray, List.set_cons_zero, List.set_cons_succ, i64_w, i32_w]
        rfl
      refine pure_ (i := 40) (N := (some 49)) (v := ?_) (a' := ?_) (pfx 41 61) rfl rfl (any_of HT_.out (by kernel_rfl)) (fun _ _ _ h => h) (Or.inl ⟨by rfl, ?_⟩) ?_ ?_
      rotate_left
      · intro w'
        go_simp
        with_reducible rfl
      rotate_left
      · simp only [Act.put, List.setIfInBounds_toArray, List.set_cons_zero, List.set_cons_succ, i64_w, i32_w]
        rfl
      refine pure_ (i := 41) (N := (some 50)) (v := undef) (a' := ?_) (pfx 42 61) rfl rfl (any_of HT_.out (by kernel_rfl)) (fun _ _ _ h => h) (Or.inr ⟨by rfl, rfl⟩) ?_ ?_
      rotate_left
      · simp only [Act.put, List.setIfInBounds_toArray, List.set_cons_zero, List.set_cons_succ, i64_w, i32_w]
        rfl
      refine pure_ (i := 42) (N := (some 51)) (v := undef) (a' := ?_) (pfx 43 61) rfl rfl (any_of HT_.out (by kernel_rfl)) (fun _ _ _ h => h) (Or.inr ⟨by rfl, rfl⟩) ?_ ?_
      rotate_left
      · simp only [Act.put, List.setIfInBounds_toArray, List.set_cons_zero, List.set_cons_succ, i64_w, i32_w]
        rfl
      refine pure_ (i := 43) (N := (some 52)) (v := undef) (a' := ?_) (pfx 44 61) rfl rfl (any_of HT_.out (by kernel_rfl)) (fun _ _ _ h => h) (Or.inr ⟨by rfl, rfl⟩) ?_ ?_
      rotate_left
      · simp only [Act.put, List.setIfInBounds_toArray, List.set_cons_zero, List.set_cons_succ, i64_w, i32_w]
        rfl
      refine pure_ (i := 44) (N := (some 53)) (v := undef) (a' := ?_) (pfx 45 61) rfl rfl (any_of HT_.out (by kernel_rfl)) (fun _ _ _ h => h) (Or.inr ⟨by rfl, rfl⟩) ?_ ?_
      rotate_left
      · simp only [Act.put, List.setIfInBounds_toArray, List.set_cons_zero, List.set_cons_succ, i64_w, i32_w]
        rfl
      refine pure_ (i := 45) (N := (some 54)) (v := undef) (a' := ?_) (pfx 46 61) rfl rfl (any_of HT_.out (by kernel_rfl)) (fun _ _ _ h => h) (Or.inr ⟨by rfl, rfl⟩) ?_ ?_
      rotate_left
      · simp only [Act.put, List.setIfInBounds_toArray, List.set_cons_zero, List.set_cons_succ, i64_w, i32_w]
        rfl
      refine pure_ (i := 46) (N := (some 55)) (v := undef) (a' := ?_) (pfx 47 61) rfl rfl (any_of HT_.out (by kernel_rfl)) (fun _ _ _ h => h) (Or.inr ⟨by rfl, rfl⟩) ?_ ?_
      rotate_left
      · simp only [Act.put, List.setIfInBounds_toArray, List.set_cons_zero, List.set_cons_succ, i64_w, i32_w]
        rfl
      refine pure_ (i := 47) (N := (some 56)) (v := undef) (a' := ?_) (pfx 48 61) rfl rfl (any_of HT_.out (by kernel_rfl)) (fun _ _ _ h => h) (Or.inr ⟨by rfl, rfl⟩) ?_ ?_
      rotate_left
      · simp only [Act.put, List.setIfInBounds_toArray, List.set_cons_zero, List.set_cons_succ, i64_w, i32_w]
        rfl
      refine pure_ (i := 48) (N := (some 57)) (v := ?_) (a' := ?_) (pfx 49 61) rfl rfl (any_of HT_.out (by kernel_rfl)) (fun _ _ _ h => h) (Or.inl ⟨by rfl, ?_⟩) ?_ ?_
      rotate_left
      · intro w'
        go_simp
        with_reducible rfl
      rotate_left
      · simp only [Act.put, List.setIfInBounds_toArray, List.set_cons_zero, List.set_cons_succ, i64_w, i32_w]
        rfl
      refine pure_ (i := 49) (N := (some 58)) (v := ?_) (a' := ?_) (pfx 50 61) rfl rfl (any_of HT_.out (by kernel_rfl)) (fun _ _ _ h => h) (Or.inl ⟨by rfl, ?_⟩) ?_ ?_
      rotate_left
      · intro w'
        go_simp
        with_reducible rfl
      rotate_left
      · simp only [Act.put, List.setIfInBounds_toArray, List.set_cons_zero, List.set_cons_succ, i64_w, i32_w]
        rfl
      refine pure_ (i := 50) (N := (some 59)) (v := undef) (a' := ?_) (pfx 51 61) rfl rfl (any_of HT_.out (by kernel_rfl)) (fun _ _ _ h => h) (Or.inr ⟨by rfl, rfl⟩) ?_ ?_
      rotate_left
      · simp only [Act.put, List.setIfInBounds_toArray, List.set_cons_zero, List.set_cons_succ, i64_w, i32_w]
        rfl
      refine pure_ (i := 51) (N := (some 60)) (v := undef) (a' := ?_) (pfx 52 61) rfl rfl (any_of HT_.out (by kernel_rfl)) (fun _ _ _ h => h) (Or.inr ⟨by rfl, rfl⟩) ?_ ?_
      rotate_left
      · simp only [Act.put, List.setIfInBounds_toArray, List.set_cons_zero, List.set_cons_succ, i64_w, i32_w]
        rfl
      refine pure_ (i := 52) (N := (some 61)) (v := undef) (a' := ?_) (pfx 53 61) rfl rfl (any_of HT_.out (by kernel_rfl)) (fun _ _ _ h => h) (Or.inr ⟨by rfl, rfl⟩) ?_ ?_
      rotate_left
      · simp only [Act.put, List.setIfInBounds_toArray, List.set_cons_zero, List.set_cons_succ, i64_w, i32_w]
        rfl
      refine pure_ (i := 53) (N := (some 62)) (v := undef) (a' := ?_) (pfx 54 61) rfl rfl (any_of HT_.out (by kernel_rfl)) (fun _ _ _ h => h) (Or.inr ⟨by rfl, rfl⟩) ?_ ?_
      rotate_left
      · simp only [Act.put, List.setIfInBounds_toArray, List.set_cons_zero, List.set_cons_succ, i64_w, i32_w]
        rfl
      refine pure_ (i := 54) (N := (some 63)) (v := undef) (a' := ?_) (pfx 55 61) rfl rfl (any_of HT_.out (by kernel_rfl)) (fun _ _ _ h => h) (Or.inr ⟨by rfl, rfl⟩) ?_ ?_
      rotate_left
      · simp only [Act.put, List.setIfInBounds_toArray, List.set_cons_zero, List.set_cons_succ, i64_w, i32_w]
        rfl
      refine pure_ (i := 55) (N := (some 64)) (v := undef) (a' := ?_) (pfx 56 61) rfl rfl (any_of HT_.out (by kernel_rfl)) (fun _ _ _ h => h) (Or.inr ⟨by rfl, rfl⟩) ?_ ?_
      rotate_left
      · simp only [Act.put, List.setIfInBounds_toArray, List.set_cons_zero, List.set_cons_succ, i64_w, i32_w]
        rfl
      refine pure_ (i := 56) (N := (some 65)) (v := undef) (a' := ?_) (pfx 57 61) rfl rfl (any_of HT_.out (by kernel_rfl)) (fun _ _ _ h => h) (Or.inr ⟨by rfl, rfl⟩) ?_ ?_
      rotate_left
      · simp only [Act.put, List.setIfInBounds_toArray, List.set_cons_zero, List.set_cons_succ, i64_w, i32_w]
        rfl
      refine pure_ (i := 57) (N := (some 66)) (v := undef) (a' := ?_) (pfx 58 61) rfl rfl (any_of HT_.out (by kernel_rfl)) (fun _ _ _ h => h) (Or.inr ⟨by rfl, rfl⟩) ?_ ?_
      rotate_left
      · simp only [Act.put, List.setIfInBounds_toArray, List.set_cons_zero, List.set_cons_succ, i64_w, i32_w]
        rfl
      refine pure_ (i := 58) (N := (some 67)) (v := undef) (a' := ?_) (pfx 59 61) rfl rfl (any_of HT_.out (by kernel_rfl)) (fun _ _ _ h => h) (Or.inr ⟨by rfl, rfl⟩) ?_ ?_
      rotate_left
      · simp only [Act.put, List.setIfInBounds_toArray, List.set_cons_zero, List.set_cons_succ, i64_w, i32_w]
        rfl
      refine pure_ (i := 59) (N := (some 68)) (v := undef) (a' := ?_) (pfx 60 61) rfl rfl (any_of HT_.out (by kernel_rfl)) (fun _ _ _ h => h) (Or.inr ⟨by rfl, rfl⟩) ?_ ?_
      rotate_left
      · simp only [Act.put, List.setIfInBounds_toArray, List.set_cons_zero, List.set_cons_succ, i64_w, i32_w]
        rfl
      refine pure_ (i := 60) (N := (some 69)) (v := ?_) (a' := ?_) (pfx 61 61) rfl rfl (any_of HT_.out (by kernel_rfl)) (fun _ _ _ h => h) (Or.inl ⟨by rfl, ?_⟩) ?_ ?_
      rotate_left
      · intro w'
        go_simp
        with_reducible rfl
      rotate_left
      · simp only [Act.put, List.setIfInBounds_toArray, List.set_cons_zero, List.set_cons_succ, i64_w, i32_w]
        rfl
      have e1 : R = (b, n) := by rw [← HX.out.2.2.2.2]; rw [show gk = 0 by have := HX.out.1; omega]; rfl
      refine done_ (done_of HT_.out (by kernel_rfl)) ?_
      subst e1
      by_cases qe : b = a
      · have qe' : ((b : Int) == (a : Int)) = true := by simp [qe]
        have qd := decide_eq_false (show ¬ b ≠ a from fun h => h qe)
        clear qe
        go_wp2
        go_ret
        exact ⟨rfl, HR.out.fail.drew, Lib.Hx.grownBy_drew (Lib.Hx.grownBy_set HG.out ⟨r, 2, none⟩ rfl _)⟩
      · have qe' : ((b : Int) == (a : Int)) = false := beqN qe
        have qd := decide_eq_true (show b ≠ a from qe)
        clear qe
        go_wp2
        go_ret
        exact ⟨rfl, HR.out.drew, Lib.Hx.grownBy_drew HG.out⟩
end Go.Proofs.YtbnonnogkgbpiaaDoor.Reader
end
section
namespace Go.Proofs.YtbnonnogkgbpiaaDoor.ParseT
open Go Go.RowKit Go.Proofs.YtbnonnogkgbpiaaDoorW.PrintWords Go.Proofs.YtbnonnogkgbpiaaDoorW.PrintLast Go.Proofs.YtbnonnogkgbpiaaDoorW.PrintMore Go.Proofs.YtbnonnogkgbpiaaDoor.PT Go.Proofs.YtbnonnogkgbpiaaDoor.TreePlain Go.Proofs.YtbnonnogkgbpiaaDoor.TreeText Go.Proofs.YtbnonnogkgbpiaaDoor.Reader Go.Proofs.YtbnonnogkgbpiaaDoor.ParseP Go.Proofs.YtbnonnogkgbpiaaDoor.NdT
set_option linter.unusedVariables false
set_option linter.unusedSimpArgs false
theorem number_calls (s : ByteArray) (r a : Nat) (ok : Bool) (w : World) (h : RdAt w r s a ok) (ha : a ≤ s.size) (hs : s.size ≤ 1048576) :
    Calls Tryd.prog 57 #[.pointer (some ⟨r, 0, none⟩)] w fun e w' => e = .returned (.int .i64 ((nmP s a ok).2.2 : Int)) ∧ RdAt w' r s (nmP s a ok).1 (nmP s a ok).2.1 ∧ w.grownBy w' (some r) := by
  cases ok
  · exact number_off s r a w h ha hs
  · exact number_on s r a w h ha hs _ rfl
def zT : Array Value := #[.int .i64 0, .int .i64 0, .slice none 0 0, .int .i64 0]
def arr4 (f : Nat → Nat) : Nat → Array Value
  | 0 => #[.int .i64 0, .int .i64 0, .int .i64 0, .int .i64 0]
  | 1 => #[.int .i64 (f 0 : Int), .int .i64 0, .int .i64 0, .int .i64 0]
  | 2 => #[.int .i64 (f 0 : Int), .int .i64 (f 1 : Int), .int .i64 0, .int .i64 0]
  | 3 => #[.int .i64 (f 0 : Int), .int .i64 (f 1 : Int), .int .i64 (f 2 : Int), .int .i64 0]
  | _ => #[.int .i64 (f 0 : Int), .int .i64 (f 1 : Int), .int .i64 (f 2 : Int), .int .i64 (f 3 : Int)]
structure PH (w W : World) (s : ByteArray) (a : Nat) (ok : Bool) (t2 r t6 t7 : Nat) (c6 c7 : Array Value) : Prop where
  rd : RdAt W r s a ok
  b2 : W.heap[t2]? = some (.cells zT 24 (0, 0))
  b6 : W.heap[t6]? = some (.cells c6 102 (0, 0))
  b7 : W.heap[t7]? = some (.cells c7 102 (0, 0))
  be : Below w.heap.size w W
  g2 : w.heap.size ≤ t2
  gr : w.heap.size ≤ r
  g6 : w.heap.size ≤ t6
  g7 : w.heap.size ≤ t7
  ne : t6 ≠ t7
  le : a ≤ s.size
theorem ne_type {W : World} {x y : Nat} {c d : Array Value} {t u : TypeId} {f g : Nat × Nat} (hx : W.heap[x]? = some (.cells c t f)) (hy : W.heap[y]? = some (.cells d u g)) (h : t ≠ u) : x ≠ y := by
  intro e
  subst e
  rw [hx] at hy
  injection hy with hy
  injection hy with _ hy
  exact h hy
section
variable {w W W' : World} {s : ByteArray} {a a' t2 r t6 t7 : Nat} {ok ok' : Bool} {c6 c7 : Array Value}
theorem PH.on (h : PH w W s a ok t2 r t6 t7 c6 c7) (hb : Below W.heap.size W W') : PH w W' s a ok t2 r t6 t7 c6 c7 :=
  ⟨blk_below h.rd hb, blk_below h.b2 hb, blk_below h.b6 hb, blk_below h.b7 hb, h.be.trans (hb.mono h.be.size), h.g2, h.gr, h.g6, h.g7, h.ne, h.le⟩
theorem PH.call (h : PH w W s a ok t2 r t6 t7 c6 c7) (hr : RdAt W' r s a' ok') (hg : W.grownBy W' (some r)) (hl : a' ≤ s.size) : PH w W' s a' ok' t2 r t6 t7 c6 c7 :=
  ⟨hr, blk_grown h.b2 hg (fun e => ne_type h.b2 h.rd (by decide) (by simpa using e)), blk_grown h.b6 hg (fun e => ne_type h.b6 h.rd (by decide) (by simpa using e)), blk_grown h.b7 hg (fun e => ne_type h.b7 h.rd (by decide) (by simpa using e)), h.be.grown hg h.be.size (fun k hk => Option.some.inj hk ▸ h.gr), h.g2, h.gr, h.g6, h.g7, h.ne, hl⟩
theorem PH.put6 (h : PH w W s a ok t2 r t6 t7 c6 c7) (x : Nat) (v : Value) : PH w (W.setCell ⟨t6, x, none⟩ v) s a ok t2 r t6 t7 (c6.setIfInBounds x v) c7 :=
  ⟨blk_far h.rd (ne_type h.rd h.b6 (by decide)) v, blk_far h.b2 (ne_type h.b2 h.b6 (by decide)) v, blk_put h.b6 x v rfl, blk_far h.b7 (Ne.symm h.ne) v, below_set h.be h.g6, h.g2, h.gr, h.g6, h.g7, h.ne, h.le⟩
theorem PH.put7 (h : PH w W s a ok t2 r t6 t7 c6 c7) (x : Nat) (v : Value) : PH w (W.setCell ⟨t7, x, none⟩ v) s a ok t2 r t6 t7 c6 (c7.setIfInBounds x v) :=
  ⟨blk_far h.rd (ne_type h.rd h.b7 (by decide)) v, blk_far h.b2 (ne_type h.b2 h.b7 (by decide)) v, blk_far h.b6 h.ne v, blk_put h.b7 x v rfl, below_set h.be h.g7, h.g2, h.gr, h.g6, h.g7, h.ne, h.le⟩
theorem PH.cells6 (h : PH w W s a ok t2 r t6 t7 c6 c7) (j : Nat) : W.cell? ⟨t6, j, none⟩ = c6[j]? ∧ W.frozen? ⟨t6, j, none⟩ = false := ⟨blk_cell h.b6 j, blk_frozen h.b6 j⟩
theorem PH.cells7 (h : PH w W s a ok t2 r t6 t7 c6 c7) (j : Nat) : W.cell? ⟨t7, j, none⟩ = c7[j]? ∧ W.frozen? ⟨t7, j, none⟩ = false := ⟨blk_cell h.b7 j, blk_frozen h.b7 j⟩
end
theorem zcells {W : World} {t : Nat} {c : Array Value} {ty : TypeId} (h : W.heap[t]? = some (.cells c ty (0, 0))) (j : Nat) : W.cell? ⟨t, j, none⟩ = c[j]? ∧ W.frozen? ⟨t, j, none⟩ = false := ⟨blk_cell h j, blk_frozen h j⟩
structure PL (w W : World) (s : ByteArray) (a : Nat) (ok : Bool) (t2 r t9 : Nat) (h0 h1 h3 : Int) (nv : Value) (l : List S49) (K : List Value) : Prop where
  rd : RdAt W r s a ok
  b2 : W.heap[t2]? = some (.cells zT 24 (0, 0))
  b9 : W.heap[t9]? = some (.cells #[.int .i64 h0, .int .i64 h1, nv, .int .i64 h3] 24 (0, 0))
  nd : NdAt w.heap.size W nv l K
  be : Below w.heap.size w W
  g2 : w.heap.size ≤ t2
  gr : w.heap.size ≤ r
  g9 : w.heap.size ≤ t9
  ne : t2 ≠ t9
  le : a ≤ s.size
structure PR (w W : World) (s : ByteArray) (a : Nat) (ok : Bool) (t2 r t9 : Nat) (h0 h1 h3 : Int) (nv : Value) (l : List S49) (K : List Value) (t11 : Nat) (x0 : Int) (kv : Value) (ks : List Int) : Prop where
  pl : PL w W s a ok t2 r t9 h0 h1 h3 nv l K
  b11 : W.heap[t11]? = some (.cells #[.int .u8 x0, kv] 49 (0, 0))
  kid : W.ownsRow w.heap.size 3 1 kv ks.length (nums .i64 ks)
  n11 : nv.ownBlock ≠ some t11
  g11 : w.heap.size ≤ t11
  kap : ∀ u ∈ K, u.ownBlock = none ∨ u.ownBlock ≠ kv.ownBlock
section
variable {w W W' W1 W2 : World} {s : ByteArray} {a a' t2 r t9 t11 : Nat} {ok ok' : Bool} {h0 h1 h3 x0 : Int} {nv kv v1 : Value} {l : List S49} {K : List Value} {ks : List Int}
theorem PL.on (h : PL w W s a ok t2 r t9 h0 h1 h3 nv l K) (hb : Below W.heap.size W W') : PL w W' s a ok t2 r t9 h0 h1 h3 nv l K :=
  ⟨blk_below h.rd hb, blk_below h.b2 hb, blk_below h.b9 hb, h.nd.on hb, h.be.trans (hb.mono h.be.size), h.g2, h.gr, h.g9, h.ne, h.le⟩
theorem PL.call (h : PL w W s a ok t2 r t9 h0 h1 h3 nv l K) (hr : RdAt W' r s a' ok') (hg : W.grownBy W' (some r)) (hl : a' ≤ s.size) : PL w W' s a' ok' t2 r t9 h0 h1 h3 nv l K :=
  ⟨hr, blk_grown h.b2 hg (fun e => ne_type h.b2 h.rd (by decide) (by simpa using e)), blk_grown h.b9 hg (fun e => ne_type h.b9 h.rd (by decide) (by simpa using e)), h.nd.grown h.rd (h.nd.far h.rd (by decide)) (by decide) hg, h.be.grown hg h.be.size (fun k hk => Option.some.inj hk ▸ h.gr), h.g2, h.gr, h.g9, h.ne, hl⟩
theorem PL.round (h : PL w W s a ok t2 r t9 h0 h1 h3 nv l K) (hb : Below W.heap.size W W') (ht : t11 = W.heap.size) (hx : W'.heap[t11]? = some (.cells #[.int .u8 0, .slice none 0 0] 49 (0, 0))) : PR w W' s a ok t2 r t9 h0 h1 h3 nv l K t11 0 (.slice none 0 0) [] :=
  ⟨h.on hb, hx, own_nil _ _ _ _, fun e => by have := own_lt h.nd.row t11 e; omega, by have := h.be.size; omega, fun u _ => by
    by_cases c : u.ownBlock = none
    · exact .inl c
    · exact .inr (fun e => c e)⟩
theorem PR.on (h : PR w W s a ok t2 r t9 h0 h1 h3 nv l K t11 x0 kv ks) (hb : Below W.heap.size W W') : PR w W' s a ok t2 r t9 h0 h1 h3 nv l K t11 x0 kv ks :=
  ⟨h.pl.on hb, blk_below h.b11 hb, own_move h.kid (fun k hk => hb.block k (own_lt h.kid k hk)), h.n11, h.g11, h.kap⟩
theorem kid_far (h : W.ownsRow w.heap.size 3 1 kv ks.length (nums .i64 ks)) {q : Nat} {cs : Array Value} {ty : TypeId} {f : Nat × Nat} (hq : W.heap[q]? = some (.cells cs ty f)) (h1 : ty ≠ 3) : some q ≠ kv.ownBlock := fun e => by
  obtain ⟨cs', hc⟩ := own_typed h q e.symm
  exact ne_type hc hq (Ne.symm h1) rfl
theorem PR.call (h : PR w W s a ok t2 r t9 h0 h1 h3 nv l K t11 x0 kv ks) (hr : RdAt W' r s a' ok') (hg : W.grownBy W' (some r)) (hl : a' ≤ s.size) : PR w W' s a' ok' t2 r t9 h0 h1 h3 nv l K t11 x0 kv ks :=
  ⟨h.pl.call hr hg hl, blk_grown h.b11 hg (fun e => ne_type h.b11 h.pl.rd (by decide) (by simpa using e)), own_move h.kid (fun k hk => hg.block k (own_lt h.kid k hk) (fun e => kid_far h.kid h.pl.rd (by decide) (e.symm.trans hk.symm))), h.n11, h.g11, h.kap⟩
theorem PL.set (h : PL w W s a ok t2 r t9 h0 h1 h3 nv l K) {q j : Nat} {v : Value} {cs : Array Value} (hq : W.heap[q]? = some (.cells cs 49 (0, 0))) (h11 : nv.ownBlock ≠ some q) (hg : w.heap.size ≤ q) : PL w (W.setCell ⟨q, j, none⟩ v) s a ok t2 r t9 h0 h1 h3 nv l K :=
  ⟨blk_far h.rd (ne_type h.rd hq (by decide)) v, blk_far h.b2 (ne_type h.b2 hq (by decide)) v, blk_far h.b9 (ne_type h.b9 hq (by decide)) v, h.nd.set hq h11 (by decide), below_set h.be hg, h.g2, h.gr, h.g9, h.ne, h.le⟩
theorem PR.state (h : PR w W s a ok t2 r t9 h0 h1 h3 nv l K t11 x0 kv ks) (x : Int) : PR w (W.setCell ⟨t11, 0, none⟩ (.int .u8 x)) s a ok t2 r t9 h0 h1 h3 nv l K t11 x kv ks :=
  ⟨h.pl.set h.b11 h.n11 h.g11, blk_put h.b11 0 _ rfl, own_setCell h.kid (p := ⟨t11, 0, none⟩) (kid_far h.kid h.b11 (by decide)) _, h.n11, h.g11, h.kap⟩
theorem PR.push (h : PR w W s a ok t2 r t9 h0 h1 h3 nv l K t11 x0 kv ks) (n : Int) (ho : W'.ownsRow w.heap.size 3 1 v1 (ks.length + 1) (nums .i64 ks ++ [.int .i64 n])) (hg : W.grownBy W' kv.ownBlock) (hat : v1.ownBlock = kv.ownBlock ∨ ∃ b, v1.ownBlock = some b ∧ W.heap.size ≤ b) :
    PR w (W'.setCell ⟨t11, 1, none⟩ v1) s a ok t2 r t9 h0 h1 h3 nv l K t11 x0 v1 (ks ++ [n]) := by
  have keep : ∀ {q : Nat} {cs : Array Value} {ty : TypeId}, W.heap[q]? = some (.cells cs ty (0, 0)) → ty ≠ 3 → W'.heap[q]? = some (.cells cs ty (0, 0)) := fun hq hne => blk_grown hq hg (kid_far h.kid hq hne)
  have b11 := keep h.b11 (by decide)
  have pl : PL w W' s a ok t2 r t9 h0 h1 h3 nv l K := ⟨keep h.pl.rd (by decide), keep h.pl.b2 (by decide), keep h.pl.b9 (by decide), h.pl.nd.move (fun k hk => hg.block k (own_lt h.pl.nd.row k hk) (fun e => by
      obtain ⟨cs, hc⟩ := own_typed h.pl.nd.row k hk
      exact kid_far h.kid hc (by decide) e)) (fun u hu k hk => hg.block k (h.pl.nd.lt u hu k hk) (fun e => by
      rcases h.kap u hu with h0 | h0
      · rw [h0] at hk; cases hk
      · exact h0 (hk.trans e))), h.pl.be.grown hg h.pl.be.size (fun k hk => own_base h.kid k hk), h.pl.g2, h.pl.gr, h.pl.g9, h.pl.ne, h.pl.le⟩
  have ho' : W'.ownsRow w.heap.size 3 1 v1 (ks ++ [n]).length (nums .i64 (ks ++ [n])) := by
    rw [List.length_append, List.length_singleton, show nums .i64 (ks ++ [n]) = nums .i64 ks ++ [.int .i64 n] from by simp [nums]]
    exact ho
  exact ⟨pl.set b11 h.n11 h.g11, blk_put b11 1 _ rfl, own_setCell ho' (p := ⟨t11, 1, none⟩) (kid_far (ks := ks ++ [n]) ho' b11 (by decide)) _, h.n11, h.g11, fun u hu => by
    rcases hat with h0 | ⟨b, hb, hle⟩
    · rw [h0]
      exact h.kap u hu
    · rcases hu0 : u.ownBlock with _ | k
      · exact .inl rfl
      · refine .inr (fun e => ?_)
        rw [hb] at e
        have := h.pl.nd.lt u hu k hu0
        have e : k = b := by simpa using e
        omega⟩
theorem PR.node (h : PR w W s a ok t2 r t9 h0 h1 h3 nv l K t11 x0 kv ks) (ho : W'.ownsRow w.heap.size 49 2 v1 (l.length + 1) (bcells l K l.length ++ [.int .u8 x0, kv])) (hg : W.grownBy W' nv.ownBlock) :
    PL w (W'.setCell ⟨t9, 2, none⟩ v1) s a ok t2 r t9 h0 h1 h3 v1 (l ++ [⟨x0, ks⟩]) (K ++ [kv]) := by
  have keep : ∀ {q : Nat} {cs : Array Value} {ty : TypeId}, W.heap[q]? = some (.cells cs ty (0, 0)) → ty ≠ 49 → W'.heap[q]? = some (.cells cs ty (0, 0)) := fun hq hne => blk_grown hq hg (fun e => h.pl.nd.far hq hne e.symm)
  have b9 := keep h.pl.b9 (by decide)
  have rd := keep h.pl.rd (by decide)
  have b2 := keep h.pl.b2 (by decide)
  have nd := h.pl.nd.snoc (x := ⟨x0, ks⟩) hg ho h.kid h.kap
  exact ⟨blk_far rd (ne_type rd b9 (by decide)) v1, blk_far b2 h.pl.ne v1, blk_put b9 2 _ rfl, nd.set b9 (nd.far b9 (by decide)) (by decide), below_set (h.pl.be.grown hg h.pl.be.size (fun k hk => own_base h.pl.nd.row k hk)) h.pl.g9, h.pl.g2, h.pl.gr, h.pl.g9, h.pl.ne, h.pl.le⟩
end
def ParseTold (B : Nat) (r : (Int × Int × List S49 × Int) × Int × Int) (e : Ending) (w' : World) : Prop :=
  ∃ nv K, e = .returned (.tuple #[.agg #[.int .i64 r.1.1, .int .i64 r.1.2.1, nv, .int .i64 r.1.2.2.2], .int .i64 r.2.1, .int .i64 r.2.2]) ∧ NdAt B w' nv r.1.2.2.1 K
theorem ParseTold.none (B : Nat) (at_ code : Int) (w' : World) : ParseTold B (noT, at_, code) (.returned (.tuple #[.agg zT, .int .i64 at_, .int .i64 code])) w' :=
  ⟨_, [], rfl, NdAt.start _ _⟩
theorem PH.tree {w W W1 : World} {s : ByteArray} {a t2 r t6 t7 t9 : Nat} {ok : Bool} {c6 c7 : Array Value} (h : PH w W s a ok t2 r t6 t7 c6 c7) (hb : Below W.heap.size W W1) (ht : t9 = W.heap.size) (hx : W1.heap[t9]? = some (.cells #[.int .i64 0, .int .i64 0, .slice none 0 0, .int .i64 0] 24 (0, 0))) (h0 h1 h3 : Int) :
    PL w ((((W1.setCell ⟨t9, 0, none⟩ (.int .i64 h0)).setCell ⟨t9, 1, none⟩ (.int .i64 h1)).setCell ⟨t9, 2, none⟩ (.slice none 0 0)).setCell ⟨t9, 3, none⟩ (.int .i64 h3)) s a ok t2 r t9 h0 h1 h3 (.slice none 0 0) [] [] ∧
    ((((W1.setCell ⟨t9, 0, none⟩ (.int .i64 h0)).setCell ⟨t9, 1, none⟩ (.int .i64 h1)).setCell ⟨t9, 2, none⟩ (.slice none 0 0)).setCell ⟨t9, 3, none⟩ (.int .i64 h3)).cell? ⟨t6, 2, none⟩ = c6[2]? := by
  have h' := h.on hb
  have e2 : t2 ≠ t9 := by have := blk_lt h.b2; omega
  have er : r ≠ t9 := by have := blk_lt h.rd; omega
  have e6 : t6 ≠ t9 := by have := blk_lt h.b6; omega
  have g9 : w.heap.size ≤ t9 := by have := h.be.size; omega
  have far : ∀ {q : Nat} {cs : Array Value} {ty : TypeId}, W1.heap[q]? = some (.cells cs ty (0, 0)) → q ≠ t9 → ((((W1.setCell ⟨t9, 0, none⟩ (.int .i64 h0)).setCell ⟨t9, 1, none⟩ (.int .i64 h1)).setCell ⟨t9, 2, none⟩ (.slice none 0 0)).setCell ⟨t9, 3, none⟩ (.int .i64 h3)).heap[q]? = some (.cells cs ty (0, 0)) := fun hq hne => blk_far (blk_far (blk_far (blk_far hq (p := ⟨t9, 0, none⟩) hne _) (p := ⟨t9, 1, none⟩) hne _) (p := ⟨t9, 2, none⟩) hne _) (p := ⟨t9, 3, none⟩) hne _
  exact ⟨⟨far h'.rd er, far h'.b2 e2, blk_put (blk_put (blk_put (blk_put hx 0 _ rfl) 1 _ rfl) 2 _ rfl) 3 _ rfl, NdAt.start _ _, below_set (below_set (below_set (below_set h'.be g9) g9) g9) g9, h.g2, h.gr, g9, e2, h.le⟩, blk_cell (far h'.b6 e6) 2⟩
theorem PH.zero {w W : World} {s : ByteArray} {a t2 r t6 t7 : Nat} {ok : Bool} {c6 c7 : Array Value} (h : PH w W s a ok t2 r t6 t7 c6 c7) :
    ((((W.setCell ⟨t2, 0, none⟩ (.int .i64 0)).setCell ⟨t2, 1, none⟩ (.int .i64 0)).setCell ⟨t2, 2, none⟩ (.slice none 0 0)).setCell ⟨t2, 3, none⟩ (.int .i64 0)).heap[t2]? = some (.cells zT 24 (0, 0)) ∧
    Below w.heap.size w ((((W.setCell ⟨t2, 0, none⟩ (.int .i64 0)).setCell ⟨t2, 1, none⟩ (.int .i64 0)).setCell ⟨t2, 2, none⟩ (.slice none 0 0)).setCell ⟨t2, 3, none⟩ (.int .i64 0)) ∧
    ((((W.setCell ⟨t2, 0, none⟩ (.int .i64 0)).setCell ⟨t2, 1, none⟩ (.int .i64 0)).setCell ⟨t2, 2, none⟩ (.slice none 0 0)).setCell ⟨t2, 3, none⟩ (.int .i64 0)).cell? ⟨t7, 2, none⟩ = c7[2]? :=
  have ne := ne_type h.b7 h.b2 (by decide)
  ⟨blk_put (blk_put (blk_put (blk_put h.b2 0 _ rfl) 1 _ rfl) 2 _ rfl) 3 _ rfl, below_set (below_set (below_set (below_set h.be h.g2) h.g2) h.g2) h.g2, blk_cell (blk_far (blk_far (blk_far (blk_far h.b7 (p := ⟨t2, 0, none⟩) ne _) (p := ⟨t2, 1, none⟩) ne _) (p := ⟨t2, 2, none⟩) ne _) (p := ⟨t2, 3, none⟩) ne _) 2⟩
theorem PL.zero {w W : World} {s : ByteArray} {a t2 r t9 : Nat} {ok : Bool} {h0 h1 h3 : Int} {nv : Value} {l : List S49} {K : List Value} (h : PL w W s a ok t2 r t9 h0 h1 h3 nv l K) :
    ((((W.setCell ⟨t2, 0, none⟩ (.int .i64 0)).setCell ⟨t2, 1, none⟩ (.int .i64 0)).setCell ⟨t2, 2, none⟩ (.slice none 0 0)).setCell ⟨t2, 3, none⟩ (.int .i64 0)).heap[t2]? = some (.cells zT 24 (0, 0)) ∧
    Below w.heap.size w ((((W.setCell ⟨t2, 0, none⟩ (.int .i64 0)).setCell ⟨t2, 1, none⟩ (.int .i64 0)).setCell ⟨t2, 2, none⟩ (.slice none 0 0)).setCell ⟨t2, 3, none⟩ (.int .i64 0)) ∧
    ((((W.setCell ⟨t2, 0, none⟩ (.int .i64 0)).setCell ⟨t2, 1, none⟩ (.int .i64 0)).setCell ⟨t2, 2, none⟩ (.slice none 0 0)).setCell ⟨t2, 3, none⟩ (.int .i64 0)).cell? ⟨r, 1, none⟩ = some (.int .i64 (a : Int)) :=
  have ne := ne_type h.rd h.b2 (by decide)
  ⟨blk_put (blk_put (blk_put (blk_put h.b2 0 _ rfl) 1 _ rfl) 2 _ rfl) 3 _ rfl, below_set (below_set (below_set (below_set h.be h.g2) h.g2) h.g2) h.g2, blk_cell (blk_far (blk_far (blk_far (blk_far h.rd (p := ⟨t2, 0, none⟩) ne _) (p := ⟨t2, 1, none⟩) ne _) (p := ⟨t2, 2, none⟩) ne _) (p := ⟨t2, 3, none⟩) ne _) 1⟩
theorem PL.ret {w W : World} {s : ByteArray} {a t2 r t9 : Nat} {ok : Bool} {h0 h1 h3 : Int} {nv : Value} {l : List S49} {K : List Value} (h : PL w W s a ok t2 r t9 h0 h1 h3 nv l K) :
    ((((W.setCell ⟨t2, 0, none⟩ (.int .i64 h0)).setCell ⟨t2, 1, none⟩ (.int .i64 h1)).setCell ⟨t2, 2, none⟩ nv).setCell ⟨t2, 3, none⟩ (.int .i64 h3)).heap[t2]? = some (.cells #[.int .i64 h0, .int .i64 h1, nv, .int .i64 h3] 24 (0, 0)) ∧
    NdAt w.heap.size ((((W.setCell ⟨t2, 0, none⟩ (.int .i64 h0)).setCell ⟨t2, 1, none⟩ (.int .i64 h1)).setCell ⟨t2, 2, none⟩ nv).setCell ⟨t2, 3, none⟩ (.int .i64 h3)) nv l K ∧
    Below w.heap.size w ((((W.setCell ⟨t2, 0, none⟩ (.int .i64 h0)).setCell ⟨t2, 1, none⟩ (.int .i64 h1)).setCell ⟨t2, 2, none⟩ nv).setCell ⟨t2, 3, none⟩ (.int .i64 h3)) := by
  have b0 := blk_put h.b2 0 (.int .i64 h0) rfl
  have b1 := blk_put b0 1 (.int .i64 h1) rfl
  have b2 := blk_put b1 2 nv rfl
  have n0 := h.nd.far h.b2 (by decide)
  exact ⟨blk_put b2 3 _ rfl, (((h.nd.set h.b2 n0 (by decide)).set b0 n0 (by decide)).set b1 n0 (by decide)).set b2 n0 (by decide), below_set (below_set (below_set (below_set h.be h.g2) h.g2) h.g2) h.g2⟩
theorem PR.b9' {w W W' : World} {s : ByteArray} {a t2 r t9 t11 : Nat} {ok : Bool} {h0 h1 h3 x0 : Int} {nv kv : Value} {l : List S49} {K : List Value} {ks : List Int} (h : PR w W s a ok t2 r t9 h0 h1 h3 nv l K t11 x0 kv ks) (hg : W.grownBy W' nv.ownBlock) : W'.heap[t9]? = some (.cells #[.int .i64 h0, .int .i64 h1, nv, .int .i64 h3] 24 (0, 0)) :=
  blk_grown h.pl.b9 hg (fun e => h.pl.nd.far h.pl.b9 (by decide) e.symm)
theorem PR.b11' {w W W' : World} {s : ByteArray} {a t2 r t9 t11 : Nat} {ok : Bool} {h0 h1 h3 x0 : Int} {nv kv : Value} {l : List S49} {K : List Value} {ks : List Int} (h : PR w W s a ok t2 r t9 h0 h1 h3 nv l K t11 x0 kv ks) (hg : W.grownBy W' kv.ownBlock) : W'.heap[t11]? = some (.cells #[.int .u8 x0, kv] 49 (0, 0)) :=
  blk_grown h.b11 hg (kid_far h.kid h.b11 (by decide))
theorem number_is (s : ByteArray) (r a : Nat) (ok : Bool) (w : World) (b : Nat) (o : Bool) (n : Nat) (e : nmP s a ok = (b, o, n)) (h : RdAt w r s a ok) (ha : a ≤ s.size) (hs : s.size ≤ 1048576) :
    Calls Tryd.prog 57 #[.pointer (some ⟨r, 0, none⟩)] w fun e w' => e = .returned (.int .i64 (n : Int)) ∧ RdAt w' r s b o ∧ w.grownBy w' (some r) := by
  have h' := number_calls s r a ok w h ha hs
  rw [e] at h'
  exact h'
theorem parse_eq (s : ByteArray) (h1 : s.size ≤ 1048576) (h2 : ¬ ((hdQ s 3).2 = true ∧ 65536 < hdN s 2)) : parse s = parseE s (lines s (hdN s 2) (hdE s).1 (hdE s).2 [] true) := by
  unfold parse
  rw [if_neg (by omega), if_neg h2]
theorem parse_head (s : ByteArray) (h1 : s.size ≤ 1048576) (h2 : (hdQ s 3).2 = true ∧ 65536 < hdN s 2) : parse s = (noT, (hdF s 2 : Int), 110) := by
  unfold parse
  rw [if_neg (by omega), if_pos h2]
theorem parseE_off (s : ByteArray) (a : Nat) (l : List S49) (sm : Bool) : parseE s ((a, false), l, sm) = (noT, (a : Int), 110) := by
  unfold parseE
  rw [if_pos (.inl rfl)]
theorem parseE_lt (s : ByteArray) (a : Nat) (l : List S49) (sm : Bool) (h : a < s.size) : parseE s ((a, true), l, sm) = (noT, (a : Int), 110) := by
  unfold parseE
  rw [if_pos (.inr h)]
theorem parseE_big (s : ByteArray) (a : Nat) (l : List S49) (h : ¬ a < s.size) : parseE s ((a, true), l, false) = (noT, 0, 110) := by
  unfold parseE
  rw [if_neg (by rintro (h' | h'); (· cases h'); (· exact h h')), if_pos (.inl rfl)]
theorem parseE_bad (s : ByteArray) (a : Nat) (l : List S49) (h : ¬ a < s.size) (hc : chk (hdN s 0) (hdN s 1) l (hdN s 3) ≠ 0) : parseE s ((a, true), l, true) = (noT, 0, 110) := by
  unfold parseE
  rw [if_neg (by rintro (h' | h'); (· cases h'); (· exact h h')), if_pos (.inr hc)]
theorem parseE_ok (s : ByteArray) (a : Nat) (l : List S49) (h : ¬ a < s.size) (hc : chk (hdN s 0) (hdN s 1) l (hdN s 3) = 0) : parseE s ((a, true), l, true) = (((hdN s 0 : Int), (hdN s 1 : Int), l, (hdN s 3 : Int)), 0, 0) := by
  unfold parseE
  rw [if_neg (by rintro (h' | h'); (· cases h'); (· exact h h')), if_neg (by rintro (h' | h'); (· cases h'); (· exact h' hc))]
theorem lines_step {s : ByteArray} {a a3 : Nat} {o3 q sm : Bool} {x : S49} (h : line s a true = ((a3, o3), x, q)) (d : Nat) (l : List S49) : lines s (d + 1) a true l sm = lines s d a3 o3 (l ++ [x]) (sm && q) := by
  rw [lines, if_pos rfl, h]
theorem lines_off {s : ByteArray} (d a : Nat) (l : List S49) (sm : Bool) : lines s d a false l sm = ((a, false), l, sm) := by
  cases d with
  | zero => rfl
  | succ d => rw [lines, if_neg (by decide)]
theorem line_eq {s : ByteArray} {a a1 a2 a3 n : Nat} {o1 o2 o3 : Bool} (h : nx s a true 61 = true) (h1 : tkP s pEq a true = (a1, o1)) (h2 : nmP s a1 o1 = (a2, o2, n)) (h3 : tkP s pNl a2 o2 = (a3, o3)) : line s a true = ((a3, o3), ⟨(n : Int) % 256, []⟩, decide ((n : Int) < 256)) := by
  unfold line qn
  rw [if_pos h, h1]
  dsimp only
  rw [h2]
  dsimp only
  rw [h3, IntKind.wrap_u8]
theorem line_kids {s : ByteArray} {a a1 a2 a3 n : Nat} {o1 o2 o3 : Bool} {ks : List Int} (h : nx s a true 61 = false) (h1 : nmP s a true = (a1, o1, n)) (h2 : kidsR s (s.size - a1) a1 o1 [(n : Int)] = (a2, o2, ks)) (h3 : tkP s pNl a2 o2 = (a3, o3)) : line s a true = ((a3, o3), ⟨0, ks⟩, true) := by
  unfold line kidsL
  rw [if_neg (by rw [h]; decide), h1]
  dsimp only
  rw [h2]
  dsimp only
  rw [h3]
theorem kidsR_on {s : ByteArray} {d b : Nat} {o : Bool} {ks : List Int} {a1 a2 n : Nat} {o1 o2 : Bool} (h : nx s b o 32 = true) (h1 : tkP s pSp b o = (a1, o1)) (h2 : nmP s a1 o1 = (a2, o2, n)) : kidsR s (d + 1) b o ks = kidsR s d a2 o2 (ks ++ [(n : Int)]) := by
  rw [kidsR, if_pos h]
  unfold qn
  rw [h1]
  dsimp only
  rw [h2]
theorem kidsR_end {s : ByteArray} (d b : Nat) {o : Bool} (ks : List Int) (h : nx s b o 32 = false) : kidsR s d b o ks = (b, o, ks) := by
  cases d with
  | zero => rfl
  | succ d => rw [kidsR, if_neg (by rw [h]; decide)]
theorem nx_lt {s : ByteArray} {b : Nat} {o : Bool} {c : Int} (h : nx s b o c = true) : o = true ∧ b < s.size ∧ bt s (b : Int) = c := by
  unfold nx at h
  simp only [Bool.and_eq_true, decide_eq_true_eq] at h
  exact ⟨h.1.1, h.1.2, h.2⟩
theorem tk_sp {s : ByteArray} {b : Nat} {o : Bool} (h : nx s b o 32 = true) : tkP s pSp b o = (b + 1, true) := by
  obtain ⟨rfl, h1, h2⟩ := nx_lt h
  show tk s pSp 1 0 b = _
  rw [tk, if_neg]
  · rfl
  · rintro (h | h)
    · omega
    · exact h h2
theorem bytes_snoc {l : List S49} {x : S49} (h : Bytes l) (hx : 0 ≤ x.f0 ∧ x.f0 ≤ 255) : Bytes (l ++ [x]) := by
  intro y hy
  rcases List.mem_append.1 hy with hy | hy
  · exact h y hy
  · rw [List.mem_singleton.1 hy]
    exact hx
end Go.Proofs.YtbnonnogkgbpiaaDoor.ParseT
end
section
namespace Go.Proofs.YtbnonnogkgbpiaaDoor.ParseP
open Go Go.RowKit Go.Proofs.YtbnonnogkgbpiaaDoorW.PrintWords Go.Proofs.YtbnonnogkgbpiaaDoorW.PrintLast Go.Proofs.YtbnonnogkgbpiaaDoorW.PrintMore Go.Proofs.YtbnonnogkgbpiaaDoor.PT Go.Proofs.YtbnonnogkgbpiaaDoor.TreePlain Go.Proofs.YtbnonnogkgbpiaaDoor.TreeText Go.Proofs.YtbnonnogkgbpiaaDoor.Reader Go.Proofs.YtbnonnogkgbpiaaDoor.LentT
set_option linter.unusedVariables false
set_option linter.unusedSimpArgs false
theorem St.of {s : ByteArray} {R : List UInt8} (h : s.data.toList = R) : St s 0 [] R := ⟨h, rfl⟩
theorem qn_fwd (s : ByteArray) (P T R : List UInt8) (a n : Nat) (h : St s a T (P ++ (Lib.decDigits n ++ R))) (hn : n < 1000000000) (hR : ND R) : qn s ⟨P.toArray⟩ a true = (a + P.length + (Lib.decDigits n).length, true, n) := by
  unfold qn
  rw [tkP_fwd s P T _ a h]
  exact nmP_fwd s n _ R _ h.mv hn hR
theorem qn_bwd (s : ByteArray) (P T R : List UInt8) (a a' n : Nat) (ok : Bool) (hs : ok = true → St s a T R) (h : qn s ⟨P.toArray⟩ a ok = (a', true, n)) : ok = true ∧ n < 1000000000 ∧ ∃ R', St s a' (T ++ P ++ Lib.decDigits n) R' := by
  unfold qn at h
  have key : ∀ b o, tkP s ⟨P.toArray⟩ a ok = (b, o) → nmP s b o = (a', true, n) → ok = true ∧ n < 1000000000 ∧ ∃ R', St s a' (T ++ P ++ Lib.decDigits n) R' := by
    intro b o e h
    cases o
    · rw [nmP_off] at h
      cases h
    · obtain ⟨h1, R1, h2, h3⟩ := tkP_bwd s P T R a b ok hs e
      obtain ⟨_, h4, R2, h5, h6⟩ := nmP_bwd s _ R1 b a' n true (fun _ => h3) h
      exact ⟨h1, h4, R2, h6⟩
  exact key _ _ rfl h
def moreT : List Int → List UInt8
  | [] => []
  | k :: r => 32 :: (Lib.itoa k ++ moreT r)
def kt : List Int → List UInt8
  | [] => []
  | k :: r => Lib.itoa k ++ moreT r
theorem moreT_snoc : ∀ (r : List Int) (k : Int), moreT (r ++ [k]) = moreT r ++ (32 :: Lib.itoa k)
  | [], k => by simp [moreT]
  | x :: r, k => by simp [moreT, moreT_snoc r k]
theorem kt_snoc (ks : List Int) (h : ks ≠ []) (k : Int) : kt (ks ++ [k]) = kt ks ++ (32 :: Lib.itoa k) := by
  cases ks with
  | nil => exact absurd rfl h
  | cons x r => simp [kt, moreT_snoc r k]
theorem kidsT_eq (ks : List Int) : ∀ j, j ≤ ks.length → kidsT ks j = kt (ks.take j)
  | 0, _ => rfl
  | j + 1, h => by
    have hk : rd ks (j : Int) = ks[j] := by
      unfold rd
      rw [Int.toNat_natCast, List.getD_eq_getElem?_getD, List.getElem?_eq_getElem h]
      rfl
    rw [kidsT, kidsT_eq ks j (by omega), hk, List.take_succ_eq_append_getElem h]
    by_cases c : 0 < j
    · rw [if_pos c, kt_snoc _ (fun e => by have := congrArg List.length e; rw [List.length_take, List.length_nil] at this; omega)]
      rfl
    · obtain rfl : j = 0 := by omega
      rw [if_neg (by omega)]
      simp [kt, moreT]
theorem kidsT_all (ks : List Int) : kidsT ks ks.length = kt ks := by rw [kidsT_eq ks _ (Nat.le_refl _), List.take_length]
def linesT : List S49 → List UInt8
  | [] => []
  | x :: l => lineT x ++ linesT l
def Num (k : Int) : Prop := 0 ≤ k ∧ k < 1000000000
def LineOk (x : S49) : Prop := (x.f1 = [] ∧ 0 ≤ x.f0 ∧ x.f0 < 256) ∨ (x.f1 ≠ [] ∧ x.f0 = 0 ∧ ∀ k ∈ x.f1, Num k)
theorem nx_yes {s : ByteArray} {a : Nat} {T R : List UInt8} {c : UInt8} (h : St s a T (c :: R)) (x : Int) (hx : (c.toNat : Int) = x) : nx s a true x = true := by
  have hz := h.size
  rw [List.length_cons] at hz
  unfold nx
  rw [h.hd, decide_eq_true hx, decide_eq_true (show a < s.size by omega)]
  rfl
theorem nx_no {s : ByteArray} {a : Nat} {T R : List UInt8} {c : UInt8} (h : St s a T (c :: R)) (x : Int) (hx : (c.toNat : Int) ≠ x) : nx s a true x = false := by
  unfold nx
  rw [h.hd, decide_eq_false hx, Bool.and_false]
theorem nd_more (r : List Int) (R : List UInt8) : ND (moreT r ++ 10 :: R) := by
  cases r with
  | nil => exact nd_cons (by decide)
  | cons k r => exact nd_cons (by decide)
theorem kidsR_fwd (s : ByteArray) : ∀ (r : List Int) (d a : Nat) (ks : List Int) (T R : List UInt8), St s a T (moreT r ++ 10 :: R) → (∀ k ∈ r, Num k) → r.length ≤ d → kidsR s d a true ks = (a + (moreT r).length, true, ks ++ r)
  | [], 0, a, ks, T, R, h, hk, hd => by simp [kidsR, moreT]
  | [], d + 1, a, ks, T, R, h, hk, hd => by
    rw [kidsR, nx_no (c := 10) h 32 (by decide), if_neg (by decide)]
    simp [moreT]
  | k :: r, 0, a, ks, T, R, h, hk, hd => by simp at hd
  | k :: r, d + 1, a, ks, T, R, h, hk, hd => by
    have hk0 := hk k (List.mem_cons_self ..)
    obtain ⟨m, rfl⟩ : ∃ m : Nat, k = (m : Int) := ⟨k.toNat, by have := hk0.1; omega⟩
    have h' : St s a T ([32] ++ (Lib.decDigits m ++ (moreT r ++ 10 :: R))) := by
      have := h
      simp only [moreT, itoa_nat, List.cons_append, List.append_assoc] at this
      exact this
    have e := qn_fwd s [32] T _ a m h' (by have := hk0.2; omega) (nd_more r R)
    rw [kidsR, nx_yes (c := 32) h' 32 (by decide), if_pos rfl]
    have e' : qn s pSp a true = (a + [(32 : UInt8)].length + (Lib.decDigits m).length, true, m) := e
    rw [e']
    have ih := kidsR_fwd s r d (a + [(32 : UInt8)].length + (Lib.decDigits m).length) (ks ++ [(m : Int)]) _ R h'.mv.mv (fun k hk' => hk k (List.mem_cons_of_mem _ hk')) (by simpa using hd)
    rw [ih]
    simp [moreT, itoa_nat]
    omega
theorem line_fwd (s : ByteArray) (x : S49) (a : Nat) (T R : List UInt8) (h : St s a T (lineT x ++ R)) (hx : LineOk x) : line s a true = ((a + (lineT x).length, true), x, true) := by
  obtain ⟨st, ks⟩ := x
  rcases hx with ⟨hx1, hx2, hx3⟩ | ⟨hx1, hx2, hx3⟩
  · dsimp only at hx1 hx2 hx3
    subst hx1
    obtain ⟨m, rfl⟩ : ∃ m : Nat, st = (m : Int) := ⟨st.toNat, by omega⟩
    have eT : lineT ⟨(m : Int), []⟩ = [61, 32] ++ Lib.decDigits m ++ [10] := by
      simp [lineT, kidsT, itoa_nat]
    rw [eT] at h ⊢
    have h' : St s a T ([61, 32] ++ (Lib.decDigits m ++ ([10] ++ R))) := by simpa using h
    have e : qn s pEq a true = _ := qn_fwd s [61, 32] T _ a m h' (by omega) (nd_cons (by decide))
    have e2 : tkP s pNl _ true = _ := tkP_fwd s [10] _ R _ h'.mv.mv
    have hnx : nx s a true 61 = true := nx_yes (c := 61) h' 61 (by decide)
    unfold line
    rw [if_pos hnx, e]
    dsimp only
    rw [e2, decide_eq_true hx3, IntWalk.u8_in _ (by omega)]
    simp
    omega
  · dsimp only at hx1 hx2 hx3
    subst hx2
    cases ks with
    | nil => exact absurd rfl hx1
    | cons k r =>
      have hk0 := hx3 k (List.mem_cons_self ..)
      obtain ⟨m, rfl⟩ : ∃ m : Nat, k = (m : Int) := ⟨k.toNat, by have := hk0.1; omega⟩
      have eT : lineT ⟨0, (m : Int) :: r⟩ = Lib.decDigits m ++ (moreT r ++ [10]) := by
        unfold lineT
        rw [if_neg (by simp)]
        show [] ++ (kidsT ((m : Int) :: r) ((m : Int) :: r).length ++ [10]) = _
        rw [kidsT_all]
        simp [kt, itoa_nat]
      rw [eT] at h ⊢
      have h' : St s a T (Lib.decDigits m ++ (moreT r ++ 10 :: R)) := by simpa using h
      have e := nmP_fwd s m T _ a h' (by have := hk0.2; omega) (nd_more r R)
      have hz := h'.mv.size
      rw [List.length_append, List.length_cons] at hz
      have hlen : ∀ q : List Int, q.length ≤ (moreT q).length := by
        intro q
        induction q with
        | nil => exact Nat.le_refl _
        | cons y q ih => simp [moreT]; omega
      have := hlen r
      have e2 := kidsR_fwd s r (s.size - (a + (Lib.decDigits m).length)) _ [(m : Int)] _ R h'.mv (fun k hk' => hx3 k (List.mem_cons_of_mem _ hk')) (by omega)
      have h3 : St s _ _ ([10] ++ R) := h'.mv.mv
      have e3 : tkP s pNl _ true = _ := tkP_fwd s [10] _ R _ h3
      have hnx : nx s a true 61 = false := by
        have hdig : ∀ n : Nat, ∃ c q, Lib.decDigits n = c :: q ∧ 48 ≤ c.toNat ∧ c.toNat ≤ 57 := by
          intro n
          induction n using Nat.strongRecOn with
          | _ n ih =>
            by_cases hn : n < 10
            · exact ⟨_, [], dd_small hn, by rw [of_nat_toNat _ (by omega)]; omega, by rw [of_nat_toNat _ (by omega)]; omega⟩
            · obtain ⟨c, q, h1, h2⟩ := ih (n / 10) (by omega)
              exact ⟨c, q ++ _, by rw [dd_big hn, h1]; rfl, h2⟩
        obtain ⟨c, q, h1, h2, h4⟩ := hdig m
        rw [h1] at h'
        exact nx_no (c := c) h' 61 (by omega)
      have eK : kidsL s a true = (a + (Lib.decDigits m).length + (moreT r).length, true, (m : Int) :: r) := by
        unfold kidsL
        rw [e]
        exact e2
      unfold line
      rw [if_neg (by rw [hnx]; decide), eK]
      dsimp only
      rw [e3]
      simp
      omega
theorem lines_fwd (s : ByteArray) : ∀ (l : List S49) (d a : Nat) (acc : List S49) (T R : List UInt8), St s a T (linesT l ++ R) → (∀ x ∈ l, LineOk x) → d = l.length → lines s d a true acc true = ((a + (linesT l).length, true), acc ++ l, true)
  | [], d, a, acc, T, R, h, hl, hd => by
    subst hd
    simp [lines, linesT]
  | x :: l, d, a, acc, T, R, h, hl, hd => by
    subst hd
    have h' : St s a T (lineT x ++ (linesT l ++ R)) := by simpa [linesT] using h
    have e := line_fwd s x a T _ h' (hl x (List.mem_cons_self ..))
    show lines s (l.length + 1) a true acc true = _
    rw [lines, if_pos rfl, e]
    have ih := lines_fwd s l _ _ (acc ++ [x]) _ R h'.mv (fun y hy => hl y (List.mem_cons_of_mem _ hy)) rfl
    dsimp only
    rw [show (true && true) = true from rfl, ih]
    simp [linesT]
    omega
theorem hd_step {s : ByteArray} {i b c n : Nat} (h : hdQ s i = (b, true)) (e : qn s pSp b true = (c, true, n)) : hdQ s (i + 1) = (c, true) ∧ hdN s i = n := by
  refine ⟨?_, ?_⟩
  · show ((qn s pSp (hdQ s i).1 (hdQ s i).2).1, (qn s pSp (hdQ s i).1 (hdQ s i).2).2.1) = (c, true)
    rw [h]
    dsimp only
    rw [e]
  · unfold hdN
    rw [h]
    dsimp only
    rw [e]
theorem hd_end {s : ByteArray} {b : Nat} {r : Nat × Bool} (h : hdQ s 4 = (b, true)) (e : tkP s pNl b true = r) : hdE s = r := by
  unfold hdE
  rw [h]
  exact e
theorem head_fwd (s : ByteArray) (n0 n1 n2 n3 : Nat) (R : List UInt8) (hs : s.data.toList = [116, 114, 101, 101] ++ ([32] ++ (Lib.decDigits n0 ++ ([32] ++ (Lib.decDigits n1 ++ ([32] ++ (Lib.decDigits n2 ++ ([32] ++ (Lib.decDigits n3 ++ ([10] ++ R))))))))))
    (h0 : n0 < 1000000000) (h1 : n1 < 1000000000) (h2 : n2 < 1000000000) (h3 : n3 < 1000000000) : hdN s 0 = n0 ∧ hdN s 1 = n1 ∧ hdN s 2 = n2 ∧ hdN s 3 = n3 ∧ (hdE s).2 = true ∧ ∃ T, St s (hdE s).1 T R := by
  have s0 := St.of hs
  have q0 : hdQ s 0 = _ := tkP_fwd s [116, 114, 101, 101] [] _ 0 s0
  have s1 := s0.mv
  have e0 : qn s pSp _ true = _ := qn_fwd s [32] _ _ _ n0 s1 h0 (nd_cons (by decide))
  have s2 := s1.mv.mv
  have e1 : qn s pSp _ true = _ := qn_fwd s [32] _ _ _ n1 s2 h1 (nd_cons (by decide))
  have s3 := s2.mv.mv
  have e2 : qn s pSp _ true = _ := qn_fwd s [32] _ _ _ n2 s3 h2 (nd_cons (by decide))
  have s4 := s3.mv.mv
  have e3 : qn s pSp _ true = _ := qn_fwd s [32] _ _ _ n3 s4 h3 (nd_cons (by decide))
  have s5 := s4.mv.mv
  have e4 : tkP s pNl _ true = _ := tkP_fwd s [10] _ _ _ s5
  obtain ⟨q1, d0⟩ := hd_step q0 e0
  obtain ⟨q2, d1⟩ := hd_step q1 e1
  obtain ⟨q3, d2⟩ := hd_step q2 e2
  obtain ⟨q4, d3⟩ := hd_step q3 e3
  have qe := hd_end q4 e4
  refine ⟨d0, d1, d2, d3, ?_, ?_⟩
  · rw [qe]
  · rw [qe]
    exact ⟨_, s5.mv⟩
def allT (st n : Int) (l : List S49) (rt : Int) : List UInt8 := headT st n l.length rt ++ linesT l
theorem restT_eq (l : List S49) : ∀ d i t, i + d = l.length → restT l d i t = if 1 ≤ d ∧ 1048576 < (t ++ linesT (l.drop i)).length then none else some (t ++ linesT (l.drop i))
  | 0, i, t, h => by
    rw [if_neg (by omega), List.drop_of_length_le (by omega)]
    simp [restT, linesT]
  | d + 1, i, t, h => by
    have hi : i < l.length := by omega
    have hn : nd l i = l[i] := by unfold nd; rw [List.getD_eq_getElem?_getD, List.getElem?_eq_getElem hi]; rfl
    have hd : l.drop i = nd l i :: l.drop (i + 1) := by rw [hn]; exact (List.getElem_cons_drop ..).symm
    have e : linesT (l.drop i) = lineT (nd l i) ++ linesT (l.drop (i + 1)) := by rw [hd]; rfl
    rw [restT, e, ← List.append_assoc]
    by_cases c : 1048576 < (t ++ lineT (nd l i)).length
    · rw [if_pos c, if_pos ⟨by omega, by rw [List.length_append]; omega⟩]
    · rw [if_neg c, restT_eq l d (i + 1) _ (by omega)]
      by_cases c2 : 1 ≤ d
      · by_cases c3 : 1048576 < (t ++ lineT (nd l i) ++ linesT (l.drop (i + 1))).length
        · rw [if_pos ⟨c2, c3⟩, if_pos ⟨by omega, c3⟩]
        · rw [if_neg (fun h => c3 h.2), if_neg (fun h => c3 h.2)]
      · have h0 : l.drop (i + 1) = [] := List.drop_of_length_le (by omega)
        rw [if_neg (fun h => c2 h.1), if_neg]
        rw [h0]
        simp only [linesT, List.append_nil]
        exact fun h => c h.2
theorem printR_eq (st n : Int) (l : List S49) (rt : Int) (h : chk st n l rt = 0) : printR st n l rt = if 1048576 < (allT st n l rt).length then ([], 3) else (allT st n l rt, 0) := by
  have hF := chk_zero h
  unfold printR
  rw [if_pos h]
  unfold printP
  rw [restT_eq l _ 0 _ (by omega)]
  have h1 := hF.hl.1
  by_cases c : 1048576 < (allT st n l rt).length
  · rw [if_pos c, if_pos ⟨h1, c⟩]
    rfl
  · rw [if_neg c, if_neg (fun h => c h.2)]
    rfl
theorem good_lines {st : Int} {l : List S49} (h : Go.Proofs.YtbnonnogkgbpiaaDoor.TreeText.Good st l) (hst : st ≤ 256) (hl : l.length ≤ 65536) (hB : Bytes l) : ∀ x ∈ l, LineOk x := by
  intro x hx
  obtain ⟨j, hj, e⟩ := List.mem_iff_getElem.1 hx
  have hn : nd l j = x := by unfold nd; rw [List.getD_eq_getElem?_getD, List.getElem?_eq_getElem hj, e]; rfl
  have g := h j hj
  have b := hB x hx
  rw [hn] at g
  rcases g with ⟨g1, g2⟩ | ⟨g1, g2, g3⟩
  · exact .inl ⟨List.eq_nil_of_length_eq_zero g1, b.1, by omega⟩
  · by_cases c : x.f1 = []
    · exact .inl ⟨c, by omega, by omega⟩
    · refine .inr ⟨c, g1, fun k hk => ?_⟩
      obtain ⟨q, hq, e⟩ := List.mem_iff_getElem.1 hk
      have g4 := g3 q hq
      have : rd x.f1 (q : Int) = k := by
        unfold rd
        rw [Int.toNat_natCast, List.getD_eq_getElem?_getD, List.getElem?_eq_getElem hq, e]
        rfl
      rw [this] at g4
      exact ⟨g4.1, by omega⟩
theorem parse_print (st n : Int) (l : List S49) (rt : Int) (hB : Bytes l) (t : List UInt8) (h : printR st n l rt = (t, 0)) : parse ⟨t.toArray⟩ = ((st, n, l, rt), 0, 0) := by
  have hc : chk st n l rt = 0 := by
    rcases chk_cases st n rt l with hc | hc
    · exact hc
    · unfold printR at h
      rw [if_neg (by omega), hc] at h
      cases h
  have hF := chk_zero hc
  have ⟨a1, a2⟩ := hF.hst
  have ⟨a3, a4⟩ := hF.hn
  have ⟨a5, a6⟩ := hF.hl
  have ⟨a7, a8⟩ := hF.hrt
  rw [printR_eq st n l rt hc] at h
  split at h
  · cases h
  · rename_i c
    obtain rfl : allT st n l rt = t := congrArg Prod.fst h
    obtain ⟨m0, rfl⟩ : ∃ m : Nat, st = (m : Int) := ⟨st.toNat, by omega⟩
    obtain ⟨m1, rfl⟩ : ∃ m : Nat, n = (m : Int) := ⟨n.toNat, by omega⟩
    obtain ⟨m3, rfl⟩ : ∃ m : Nat, rt = (m : Int) := ⟨rt.toNat, by omega⟩
    have hs : (⟨(allT m0 m1 l m3).toArray⟩ : ByteArray).data.toList = [116, 114, 101, 101] ++ ([32] ++ (Lib.decDigits m0 ++ ([32] ++ (Lib.decDigits m1 ++ ([32] ++ (Lib.decDigits l.length ++ ([32] ++ (Lib.decDigits m3 ++ ([10] ++ linesT l))))))))) := by
      have r0 : rd [(m0 : Int), m1, l.length, m3] ((0 : Nat) : Int) = m0 := rfl
      have r1 : rd [(m0 : Int), m1, l.length, m3] ((1 : Nat) : Int) = m1 := rfl
      have r2 : rd [(m0 : Int), m1, l.length, m3] ((2 : Nat) : Int) = l.length := rfl
      have r3 : rd [(m0 : Int), m1, l.length, m3] ((3 : Nat) : Int) = m3 := rfl
      simp only [allT, headT, spacedT, r0, r1, r2, r3, itoa_nat, List.append_assoc, List.nil_append, List.cons_append]
    have hz : (⟨(allT m0 m1 l m3).toArray⟩ : ByteArray).size = (allT m0 m1 l m3).length := by simp [← ByteArray.size_data]
    generalize (⟨(allT m0 m1 l m3).toArray⟩ : ByteArray) = s at hs hz ⊢
    obtain ⟨d0, d1, d2, d3, qe, T, hS⟩ := head_fwd s m0 m1 l.length m3 (linesT l) hs (by omega) (by omega) (by omega) (by omega)
    have hS' : St s (hdE s).1 T (linesT l ++ []) := by rw [List.append_nil]; exact hS
    have el := lines_fwd s l l.length (hdE s).1 [] T [] hS' (good_lines hF.good a2 a6 hB) rfl
    unfold parse
    rw [if_neg (by omega), d2, if_neg (by omega), qe, el]
    unfold parseE
    dsimp only
    have hz2 := hS.size
    rw [if_neg (by rintro (h | h); (· cases h); (· omega)), List.nil_append, d0, d1, d3, hc, if_neg (by rintro (h | h); (· cases h); (· exact h rfl))]
theorem kidsR_bwd (s : ByteArray) (T : List UInt8) : ∀ (d a : Nat) (ok : Bool) (ks : List Int) (R : List UInt8) (a' : Nat) (ks' : List Int), kidsR s d a ok ks = (a', true, ks') → (ok = true → St s a (T ++ kt ks) R) → ks ≠ [] → (∀ k ∈ ks, Num k) → ok = true ∧ ks' ≠ [] ∧ (∀ k ∈ ks', Num k) ∧ ∃ R', St s a' (T ++ kt ks') R'
  | 0, a, ok, ks, R, a', ks', h, hs, hk, hn => by
    injection h with h1 h
    injection h with h2 h3
    subst h1 h2 h3
    exact ⟨rfl, hk, hn, R, hs rfl⟩
  | d + 1, a, ok, ks, R, a', ks', h, hs, hk, hn => by
    unfold kidsR at h
    split at h
    · rename_i c
      have hok : ok = true := by
        cases ok
        · simp [nx] at c
        · rfl
      have key : ∀ b o m, qn s pSp a ok = (b, o, m) → kidsR s d b o (ks ++ [(m : Int)]) = (a', true, ks') → ok = true ∧ ks' ≠ [] ∧ (∀ k ∈ ks', Num k) ∧ ∃ R', St s a' (T ++ kt ks') R' := by
        intro b o m e h
        by_cases ho : o = true
        · subst ho
          obtain ⟨_, h4, R2, h5⟩ := qn_bwd s [32] _ R a b m ok hs e
          have ih := kidsR_bwd s T d b true (ks ++ [(m : Int)]) R2 a' ks' h (fun _ => h5.cast rfl (by rw [kt_snoc ks hk, itoa_nat]; simp)) (by simp) (by
            intro k hk'
            rcases List.mem_append.1 hk' with h | h
            · exact hn k h
            · rw [List.mem_singleton.1 h]
              exact ⟨by omega, by omega⟩)
          exact ⟨hok, ih.2⟩
        · have ho : o = false := by simpa using ho
          subst ho
          have hk3 : ∀ (d b : Nat) (xs : List Int), kidsR s d b false xs = (b, false, xs) := by
            intro d b xs
            cases d with
            | zero => rfl
            | succ d => rw [kidsR, if_neg (by simp [nx])]
          rw [hk3] at h
          cases h
      exact key _ _ _ rfl h
    · injection h with h1 h
      injection h with h2 h3
      subst h1 h2 h3
      exact ⟨rfl, hk, hn, R, hs rfl⟩
theorem line_bwd (s : ByteArray) (T R : List UInt8) (a a' : Nat) (x : S49) (hs : St s a T R) (h : line s a true = ((a', true), x, true)) : LineOk x ∧ ∃ R', St s a' (T ++ lineT x) R' := by
  unfold line at h
  split at h
  · have key : ∀ b o m, qn s pEq a true = (b, o, m) → ((tkP s pNl b o, (⟨IntKind.u8.wrap (m : Int), []⟩ : S49), decide ((m : Int) < 256)) : (Nat × Bool) × S49 × Bool) = ((a', true), x, true) → LineOk x ∧ ∃ R', St s a' (T ++ lineT x) R' := by
      intro b o m e h
      injection h with h1 h
      injection h with h2 h3
      have h3 := of_decide_eq_true h3
      by_cases ho : o = true
      · subst ho
        obtain ⟨_, h4, R2, h5⟩ := qn_bwd s [61, 32] _ R a b m true (fun _ => hs) e
        obtain ⟨_, R3, h6, h7⟩ := tkP_bwd s [10] _ R2 b a' true (fun _ => h5) h1
        rw [IntWalk.u8_in _ (by omega)] at h2
        subst h2
        exact ⟨.inl ⟨rfl, by show (0 : Int) ≤ m; omega, h3⟩, R3, h7.cast rfl (by simp [lineT, kidsT, itoa_nat])⟩
      · have ho : o = false := by simpa using ho
        subst ho
        cases h1
    exact key _ _ _ rfl h
  · have key : ∀ b o m, nmP s a true = (b, o, m) → ∀ c p ks, kidsR s (s.size - b) b o [(m : Int)] = (c, p, ks) → ((tkP s pNl c p, (⟨0, ks⟩ : S49), true) : (Nat × Bool) × S49 × Bool) = ((a', true), x, true) → LineOk x ∧ ∃ R', St s a' (T ++ lineT x) R' := by
      intro b o m e c p ks e2 h
      injection h with h1 h
      injection h with h2 h3
      subst h2
      by_cases hp : p = true
      · subst hp
        by_cases ho : o = true
        · subst ho
          obtain ⟨_, h4, R2, h5, h6⟩ := nmP_bwd s T R a b m true (fun _ => hs) e
          obtain ⟨_, h7, h8, R3, h9⟩ := kidsR_bwd s T _ b true [(m : Int)] R2 c ks e2 (fun _ => h6.cast rfl (by simp [kt, moreT, itoa_nat])) (by simp) (by
            intro k hk'
            rw [List.mem_singleton.1 hk']
            exact ⟨by omega, by omega⟩)
          obtain ⟨_, R4, h10, h11⟩ := tkP_bwd s [10] _ R3 c a' true (fun _ => h9) h1
          refine ⟨.inr ⟨h7, rfl, h8⟩, R4, h11.cast rfl ?_⟩
          unfold lineT
          rw [if_neg (fun h => h7 (List.eq_nil_of_length_eq_zero h)), kidsT_all]
          simp
        · have ho : o = false := by simpa using ho
          subst ho
          have hk3 : ∀ (d b : Nat) (xs : List Int), kidsR s d b false xs = (b, false, xs) := by
            intro d b xs
            cases d with
            | zero => rfl
            | succ d => rw [kidsR, if_neg (by simp [nx])]
          rw [hk3] at e2
          cases e2
      · have hp : p = false := by simpa using hp
        subst hp
        cases h1
    exact key _ _ _ rfl _ _ _ rfl h
theorem lines_bwd (s : ByteArray) : ∀ (d a : Nat) (ok : Bool) (acc : List S49) (sm : Bool) (T R : List UInt8) (a' : Nat) (l' : List S49), lines s d a ok acc sm = ((a', true), l', true) → (ok = true → St s a T R) → ok = true ∧ sm = true ∧ ∃ l R', l' = acc ++ l ∧ l.length = d ∧ (∀ x ∈ l, LineOk x) ∧ St s a' (T ++ linesT l) R'
  | 0, a, ok, acc, sm, T, R, a', l', h, hs => by
    injection h with h1 h
    injection h with h2 h3
    injection h1 with h4 h5
    subst h2 h3 h4 h5
    exact ⟨rfl, rfl, [], R, by simp, rfl, by simp, (hs rfl).cast rfl (by simp [linesT])⟩
  | d + 1, a, ok, acc, sm, T, R, a', l', h, hs => by
    unfold lines at h
    split at h
    · rename_i c
      subst c
      have key : ∀ b o x q, line s a true = ((b, o), x, q) → lines s d b o (acc ++ [x]) (sm && q) = ((a', true), l', true) → (true = true) ∧ sm = true ∧ ∃ l R', l' = acc ++ l ∧ l.length = d + 1 ∧ (∀ x ∈ l, LineOk x) ∧ St s a' (T ++ linesT l) R' := by
        intro b o x q e h
        by_cases ho : o = true ∧ q = true
        · obtain ⟨rfl, rfl⟩ := ho
          obtain ⟨hx, R2, h2⟩ := line_bwd s T R a b x (hs rfl) e
          obtain ⟨_, h3, l, R3, h4, h5, h6, h7⟩ := lines_bwd s d b true (acc ++ [x]) (sm && true) _ R2 a' l' h (fun _ => h2)
          refine ⟨rfl, by simpa using h3, x :: l, R3, by rw [h4]; simp, by simp [h5], ?_, h7.cast rfl (by simp [linesT])⟩
          intro y hy
          rcases List.mem_cons.1 hy with rfl | hy
          · exact hx
          · exact h6 y hy
        · have small : ∀ (d b : Nat) (o : Bool) (acc : List S49) (sm : Bool), sm = false → (lines s d b o acc sm).2.2 = false := by
            intro d
            induction d with
            | zero => intro b o acc sm h; exact h
            | succ d ih =>
              intro b o acc sm h
              unfold lines
              split
              · exact ih _ _ _ _ (by rw [h]; rfl)
              · exact h
          have off : ∀ (d b : Nat) (acc : List S49) (sm : Bool), (lines s d b false acc sm).1.2 = false := by
            intro d b acc sm
            cases d with
            | zero => rfl
            | succ d => rw [lines, if_neg (by decide)]
          exfalso
          by_cases hq : q = true
          · have ho' : o = false := by
              cases o
              · rfl
              · exact absurd ⟨rfl, hq⟩ ho
            subst ho'
            have := off d b (acc ++ [x]) (sm && q)
            rw [h] at this
            cases this
          · have := small d b o (acc ++ [x]) (sm && q) (by rw [show q = false by simpa using hq]; simp)
            rw [h] at this
            cases this
      exact key _ _ _ _ rfl h
    · rename_i c
      exfalso
      injection h with h1 h
      injection h1 with h4 h5
      exact c h5
theorem head_bwd (s : ByteArray) (h : (hdE s).2 = true) : ∃ R, St s (hdE s).1 ([116, 114, 101, 101] ++ ([32] ++ (Lib.decDigits (hdN s 0) ++ ([32] ++ (Lib.decDigits (hdN s 1) ++ ([32] ++ (Lib.decDigits (hdN s 2) ++ ([32] ++ (Lib.decDigits (hdN s 3) ++ [10]))))))))) R := by
  have s0 : ∀ b o, tkP s pTree 0 true = (b, o) → o = true → ∃ R, St s b [116, 114, 101, 101] R := fun b o e ho => by
    subst ho
    obtain ⟨_, R, _, h2⟩ := tkP_bwd s [116, 114, 101, 101] [] _ 0 b true (fun _ => St.start s) e
    exact ⟨R, h2⟩
  have step : ∀ (i : Nat) (T : List UInt8), ((hdQ s i).2 = true → ∃ R, St s (hdQ s i).1 T R) → ((hdQ s (i + 1)).2 = true → (hdQ s i).2 = true ∧ ∃ R, St s (hdQ s (i + 1)).1 (T ++ ([32] ++ Lib.decDigits (hdN s i))) R) := by
    intro i T ih ho
    by_cases c : (hdQ s i).2 = true
    · obtain ⟨R, hR⟩ := ih c
      obtain ⟨_, _, R2, h2⟩ := qn_bwd s [32] T R (hdQ s i).1 (qn s pSp (hdQ s i).1 (hdQ s i).2).1 (hdN s i) (hdQ s i).2 (fun _ => hR) (Prod.ext rfl (Prod.ext ho rfl))
      exact ⟨c, R2, h2.cast rfl (by simp)⟩
    · exfalso
      have c : (hdQ s i).2 = false := by simpa using c
      have : (hdQ s (i + 1)).2 = false := by
        show (qn s pSp (hdQ s i).1 (hdQ s i).2).2.1 = false
        rw [c]
        rfl
      rw [this] at ho
      cases ho
  have t1 := step 0 _ (s0 _ _ rfl)
  have t2 := step 1 _ (fun h => (t1 h).2)
  have t3 := step 2 _ (fun h => (t2 h).2)
  have t4 := step 3 _ (fun h => (t3 h).2)
  have fin : ∀ b o, tkP s pNl (hdQ s 4).1 (hdQ s 4).2 = (b, o) → o = true → ∃ R, St s b ([116, 114, 101, 101] ++ ([32] ++ (Lib.decDigits (hdN s 0) ++ ([32] ++ (Lib.decDigits (hdN s 1) ++ ([32] ++ (Lib.decDigits (hdN s 2) ++ ([32] ++ (Lib.decDigits (hdN s 3) ++ [10]))))))))) R := fun b o e ho => by
    subst ho
    by_cases c : (hdQ s 4).2 = true
    · obtain ⟨R, hR⟩ := (t4 c).2
      obtain ⟨_, R2, _, h2⟩ := tkP_bwd s [10] _ R (hdQ s 4).1 b (hdQ s 4).2 (fun _ => hR) e
      exact ⟨R2, h2.cast rfl (by simp)⟩
    · rw [show (hdQ s 4).2 = false by simpa using c] at e
      cases e
  exact fin _ _ rfl h
theorem print_parse (s : ByteArray) (st n : Int) (l : List S49) (rt at_ : Int) (h : parse s = ((st, n, l, rt), at_, 0)) : at_ = 0 ∧ Bytes l ∧ printR st n l rt = (s.data.toList, 0) := by
  unfold parse at h
  split at h
  · cases h
  rename_i c1
  split at h
  · cases h
  rename_i c2
  have key : ∀ b o l' sm, lines s (hdN s 2) (hdE s).1 (hdE s).2 [] true = ((b, o), l', sm) → parseE s ((b, o), l', sm) = ((st, n, l, rt), at_, 0) → at_ = 0 ∧ Bytes l ∧ printR st n l rt = (s.data.toList, 0) := by
    intro b o l' sm e h
    unfold parseE at h
    dsimp only at h
    split at h
    · cases h
    rename_i c3
    split at h
    · cases h
    rename_i c4
    have ho : o = true := by cases o; (· exact absurd (.inl rfl) c3); (· rfl)
    have hsm : sm = true := by cases sm; (· exact absurd (.inl rfl) c4); (· rfl)
    subst ho hsm
    injection h with h1 h2
    injection h2 with h2 _
    injection h1 with h3 h1
    injection h1 with h4 h1
    injection h1 with h5 h6
    subst h2 h3 h4 h5 h6
    have hhd := fun hE => head_bwd s hE
    have hE : (hdE s).2 = true := by
      by_cases c : (hdE s).2 = true
      · exact c
      · exfalso
        rw [show (hdE s).2 = false by simpa using c] at e
        have off : ∀ (d b : Nat) (acc : List S49) (sm : Bool), (lines s d b false acc sm).1.2 = false := by
          intro d b acc sm
          cases d with
          | zero => rfl
          | succ d => rw [lines, if_neg (by decide)]
        have := off (hdN s 2) (hdE s).1 [] true
        rw [e] at this
        cases this
    obtain ⟨R, hR⟩ := hhd hE
    obtain ⟨_, _, l2, R2, h7, h8, h9, h10⟩ := lines_bwd s _ _ _ _ _ _ R b l' e (fun _ => hR)
    rw [List.nil_append] at h7
    subst h7
    have hz := h10.size
    have hR2 : R2 = [] := List.eq_nil_of_length_eq_zero (by have : ¬ b < s.size := fun h => c3 (.inr h); omega)
    subst hR2
    have hck : chk (hdN s 0) (hdN s 1) l' (hdN s 3) = 0 := Classical.byContradiction (fun e => c4 (.inr e))
    have hall : s.data.toList = allT (hdN s 0) (hdN s 1) l' (hdN s 3) := by
      rw [h10.e]
      have r0 : rd [(hdN s 0 : Int), hdN s 1, l'.length, hdN s 3] ((0 : Nat) : Int) = hdN s 0 := rfl
      have r1 : rd [(hdN s 0 : Int), hdN s 1, l'.length, hdN s 3] ((1 : Nat) : Int) = hdN s 1 := rfl
      have r2 : rd [(hdN s 0 : Int), hdN s 1, l'.length, hdN s 3] ((2 : Nat) : Int) = l'.length := rfl
      have r3 : rd [(hdN s 0 : Int), hdN s 1, l'.length, hdN s 3] ((3 : Nat) : Int) = hdN s 3 := rfl
      simp only [allT, headT, spacedT, r0, r1, r2, r3, itoa_nat, List.append_assoc, List.nil_append, List.cons_append, List.append_nil]
      rw [h8]
    have hlen : s.data.toList.length = s.size := rfl
    refine ⟨rfl, ?_, ?_⟩
    · intro x hx
      rcases h9 x hx with ⟨_, g1, g2⟩ | ⟨_, g1, _⟩
      · exact ⟨g1, by omega⟩
      · rw [g1]
        exact ⟨by decide, by decide⟩
    · rw [printR_eq _ _ _ _ hck, ← hall, if_neg (by omega)]
  exact key _ _ _ _ rfl h
theorem parse_bad (s : ByteArray) (h : (parse s).2.2 ≠ 0) : (parse s).1 = noT := by
  unfold parse at h ⊢
  split
  · rfl
  rename_i c1
  rw [if_neg c1] at h
  split
  · rfl
  rename_i c2
  rw [if_neg c2] at h
  unfold parseE at h ⊢
  split
  · rfl
  rename_i c3
  rw [if_neg c3] at h
  split
  · rfl
  rename_i c4
  rw [if_neg c4] at h
  exact absurd rfl h
theorem hdQ_le (s : ByteArray) : ∀ i, (hdQ s i).1 ≤ s.size
  | 0 => (tkP_le s pTree 0 true (Nat.zero_le _)).2
  | i + 1 => (nmP_le s _ _ (tkP_le s pSp _ _ (hdQ_le s i)).2).2
theorem qn_le (s p : ByteArray) (a : Nat) (ok : Bool) (h : a ≤ s.size) : a ≤ (qn s p a ok).1 ∧ (qn s p a ok).1 ≤ s.size := by
  have h1 := tkP_le s p a ok h
  have h2 := nmP_le s _ (tkP s p a ok).2 h1.2
  exact ⟨Nat.le_trans h1.1 h2.1, h2.2⟩
theorem kidsR_le (s : ByteArray) : ∀ d a ok ks, a ≤ s.size → (kidsR s d a ok ks).1 ≤ s.size
  | 0, a, ok, ks, h => h
  | d + 1, a, ok, ks, h => by
    unfold kidsR
    split
    · exact kidsR_le s d _ _ _ (qn_le s pSp a ok h).2
    · exact h
theorem kidsL_le (s : ByteArray) (a : Nat) (ok : Bool) (h : a ≤ s.size) : (kidsL s a ok).1 ≤ s.size := kidsR_le s _ _ _ _ (nmP_le s a ok h).2
theorem line_le (s : ByteArray) (a : Nat) (ok : Bool) (h : a ≤ s.size) : (line s a ok).1.1 ≤ s.size := by
  unfold line
  split
  · exact (tkP_le s pNl _ _ (qn_le s pEq a ok h).2).2
  · exact (tkP_le s pNl _ _ (kidsL_le s a ok h)).2
theorem lines_le (s : ByteArray) : ∀ d a ok l sm, a ≤ s.size → (lines s d a ok l sm).1.1 ≤ s.size
  | 0, a, ok, l, sm, h => h
  | d + 1, a, ok, l, sm, h => by
    unfold lines
    split
    · exact lines_le s d _ _ _ _ (line_le s a ok h)
    · exact h
theorem hdE_le (s : ByteArray) : (hdE s).1 ≤ s.size := (tkP_le s pNl _ _ (hdQ_le s 4)).2
theorem parse_place (s : ByteArray) : 0 ≤ (parse s).2.1 ∧ (parse s).2.1 ≤ s.size := by
  unfold parse
  split
  · exact ⟨Int.le_refl _, Int.natCast_nonneg _⟩
  split
  · have h := (tkP_le s pSp _ (hdQ s 2).2 (hdQ_le s 2)).2
    exact ⟨Int.natCast_nonneg _, Int.ofNat_le.2 h⟩
  unfold parseE
  split
  · exact ⟨Int.natCast_nonneg _, Int.ofNat_le.2 (lines_le s _ _ _ _ _ (hdE_le s))⟩
  split
  · exact ⟨Int.le_refl _, Int.natCast_nonneg _⟩
  · exact ⟨Int.le_refl _, Int.natCast_nonneg _⟩
end Go.Proofs.YtbnonnogkgbpiaaDoor.ParseP
end
section
namespace Go.Proofs.YtbnonnogkgbpiaaDoor.ParseT
open Go Go.RowKit Go.Proofs.YtbnonnogkgbpiaaDoorW.PrintWords Go.Proofs.YtbnonnogkgbpiaaDoorW.PrintLast Go.Proofs.YtbnonnogkgbpiaaDoorW.PrintMore Go.Proofs.YtbnonnogkgbpiaaDoor.PT Go.Proofs.YtbnonnogkgbpiaaDoor.TreePlain Go.Proofs.YtbnonnogkgbpiaaDoor.TreeText Go.Proofs.YtbnonnogkgbpiaaDoor.Reader Go.Proofs.YtbnonnogkgbpiaaDoor.ParseP Go.Proofs.YtbnonnogkgbpiaaDoor.NdT
set_option linter.unusedVariables false
set_option linter.unusedSimpArgs false
def T18_13 : Bool × List (List Nat × List Nat) := (true, [([], []), ([], []), ([1], [1]), ([0, 0], [0]), ([2, 3, 0, 1, 2, 3], [2]), ([4, 0, 1, 2, 3, 4], [])])
def B18_13 : List Nat := [0, 0, 2, 1, 15, 31]
theorem tab18_13 : rtab .any (opsOf Tryd.f18 13) = T18_13 := by kernel_rfl
theorem bits18_13 : waitsOk T18_13.2 B18_13 = true := by kernel_rfl
def T18_27 : Bool × List (List Nat × List Nat) := (true, [([], []), ([0], [0]), ([], []), ([2], [2]), ([3], [3]), ([1, 4, 3], [1, 4]), ([0, 1, 2, 3, 4, 5], []), ([6, 5, 5, 0, 1, 2, 3, 4, 5], [5, 6])])
def B18_27 : List Nat := [0, 1, 0, 4, 12, 31, 63, 127]
theorem tab18_27 : rtab .any (opsOf Tryd.f18 27) = T18_27 := by kernel_rfl
theorem bits18_27 : waitsOk T18_27.2 B18_27 = true := by kernel_rfl
def T18_30 : Bool × List (List Nat × List Nat) := (true, [([], []), ([0], [0]), ([], []), ([2], [2]), ([3], [3]), ([1, 4, 3], [1, 4]), ([0, 1, 2, 3, 4, 5], []), ([6, 5, 5, 0, 1, 2, 3, 4, 5], [5, 6])])
def B18_30 : List Nat := [0, 1, 0, 4, 12, 31, 63, 127]
theorem tab18_30 : rtab .any (opsOf Tryd.f18 30) = T18_30 := by kernel_rfl
theorem bits18_30 : waitsOk T18_30.2 B18_30 = true := by kernel_rfl
def T18_35 : Bool × List (List Nat × List Nat) := (true, [([], []), ([], []), ([1], [1]), ([2], [2]), ([3], [3]), ([0, 0], [0]), ([4, 5, 0, 1, 2, 3, 4, 5], [4]), ([6, 0, 1, 2, 3, 4, 5, 6], [])])
def B18_35 : List Nat := [0, 0, 2, 6, 14, 1, 63, 127]
theorem tab18_35 : rtab .any (opsOf Tryd.f18 35) = T18_35 := by kernel_rfl
theorem bits18_35 : waitsOk T18_35.2 B18_35 = true := by kernel_rfl
theorem takes_tree (s : ByteArray) (r a : Nat) (ok : Bool) (w : World) (h : RdAt w r s a ok) (ha : a ≤ s.size) (hs : s.size ≤ 1048576) :
    Calls Tryd.prog 56 #[.pointer (some ⟨r, 0, none⟩), .string ⟨#[116, 114, 101, 101]⟩] w fun e w' => e = .returned (.tuple #[]) ∧ RdAt w' r s (tkP s pTree a ok).1 (tkP s pTree a ok).2 ∧ w.grownBy w' (some r) := takes_calls s pTree r a ok w h ha hs (by decide)
theorem takes_sp (s : ByteArray) (r a : Nat) (ok : Bool) (w : World) (h : RdAt w r s a ok) (ha : a ≤ s.size) (hs : s.size ≤ 1048576) :
    Calls Tryd.prog 56 #[.pointer (some ⟨r, 0, none⟩), .string ⟨#[32]⟩] w fun e w' => e = .returned (.tuple #[]) ∧ RdAt w' r s (tkP s pSp a ok).1 (tkP s pSp a ok).2 ∧ w.grownBy w' (some r) := takes_calls s pSp r a ok w h ha hs (by decide)
theorem takes_sp_is (s : ByteArray) (r a : Nat) (ok : Bool) (w : World) (b : Nat) (o : Bool) (hb : tkP s pSp a ok = (b, o)) (h : RdAt w r s a ok) (ha : a ≤ s.size) (hs : s.size ≤ 1048576) :
    Calls Tryd.prog 56 #[.pointer (some ⟨r, 0, none⟩), .string ⟨#[32]⟩] w fun e w' => e = .returned (.tuple #[]) ∧ RdAt w' r s b o ∧ w.grownBy w' (some r) ∧ b ≤ s.size := by
  refine (takes_sp s r a ok w h ha hs).mono ?_
  rintro e w' ⟨h1, h2, h3⟩
  have h4 := (tkP_le s pSp a ok ha).2
  rw [hb] at h2 h4
  exact ⟨h1, h2, h3, h4⟩
theorem takes_nl (s : ByteArray) (r a : Nat) (ok : Bool) (w : World) (h : RdAt w r s a ok) (ha : a ≤ s.size) (hs : s.size ≤ 1048576) :
    Calls Tryd.prog 56 #[.pointer (some ⟨r, 0, none⟩), .string ⟨#[10]⟩] w fun e w' => e = .returned (.tuple #[]) ∧ RdAt w' r s (tkP s pNl a ok).1 (tkP s pNl a ok).2 ∧ w.grownBy w' (some r) := takes_calls s pNl r a ok w h ha hs (by decide)
theorem takes_nl_is (s : ByteArray) (r a : Nat) (ok : Bool) (w : World) (b : Nat) (o : Bool) (hb : tkP s pNl a ok = (b, o)) (h : RdAt w r s a ok) (ha : a ≤ s.size) (hs : s.size ≤ 1048576) :
    Calls Tryd.prog 56 #[.pointer (some ⟨r, 0, none⟩), .string ⟨#[10]⟩] w fun e w' => e = .returned (.tuple #[]) ∧ RdAt w' r s b o ∧ w.grownBy w' (some r) ∧ b ≤ s.size := by
  refine (takes_nl s r a ok w h ha hs).mono ?_
  rintro e w' ⟨h1, h2, h3⟩
  have h4 := (tkP_le s pNl a ok ha).2
  rw [hb] at h2 h4
  exact ⟨h1, h2, h3, h4⟩
theorem takes_eq (s : ByteArray) (r a : Nat) (ok : Bool) (w : World) (h : RdAt w r s a ok) (ha : a ≤ s.size) (hs : s.size ≤ 1048576) :
    Calls Tryd.prog 56 #[.pointer (some ⟨r, 0, none⟩), .string ⟨#[61, 32]⟩] w fun e w' => e = .returned (.tuple #[]) ∧ RdAt w' r s (tkP s pEq a ok).1 (tkP s pEq a ok).2 ∧ w.grownBy w' (some r) := takes_calls s pEq r a ok w h ha hs (by decide)
theorem takes_eq_is (s : ByteArray) (r a : Nat) (ok : Bool) (w : World) (b : Nat) (o : Bool) (hb : tkP s pEq a ok = (b, o)) (h : RdAt w r s a ok) (ha : a ≤ s.size) (hs : s.size ≤ 1048576) :
    Calls Tryd.prog 56 #[.pointer (some ⟨r, 0, none⟩), .string ⟨#[61, 32]⟩] w fun e w' => e = .returned (.tuple #[]) ∧ RdAt w' r s b o ∧ w.grownBy w' (some r) ∧ b ≤ s.size := by
  refine (takes_eq s r a ok w h ha hs).mono ?_
  rintro e w' ⟨h1, h2, h3⟩
  have h4 := (tkP_le s pEq a ok ha).2
  rw [hb] at h2 h4
  exact ⟨h1, h2, h3, h4⟩
theorem next_is (s : ByteArray) (r a : Nat) (ok : Bool) (c : Int) (w : World) (b : Bool) (hb : nx s a ok c = b) (h : RdAt w r s a ok) (ha : a ≤ s.size) (hs : s.size ≤ 1048576) :
    Calls Tryd.prog 58 #[.pointer (some ⟨r, 0, none⟩), .int .u8 c] w fun e w' => e = .returned (.bool b) ∧ Below w.heap.size w w' := hb ▸ next_calls s r a ok c w h ha hs
theorem hdN2_le (s : ByteArray) (h : ¬ ((hdQ s 3).2 = true ∧ 65536 < hdN s 2)) : hdN s 2 ≤ 65536 := by
  by_cases c : (hdQ s 3).2 = true
  · by_cases d : 65536 < hdN s 2
    · exact absurd ⟨c, d⟩ h
    · omega
  · have : hdN s 2 = 0 := nmP_zero s _ _ (show (hdQ s 3).2 = false by simpa using c)
    omega
theorem number_has (s : ByteArray) (r a : Nat) (ok : Bool) (w : World) (b : Nat) (o : Bool) (n : Nat) (e : nmP s a ok = (b, o, n)) (h : RdAt w r s a ok) (ha : a ≤ s.size) (hs : s.size ≤ 1048576) :
    Calls Tryd.prog 57 #[.pointer (some ⟨r, 0, none⟩)] w fun e w' => e = .returned (.int .i64 (n : Int)) ∧ RdAt w' r s b o ∧ w.grownBy w' (some r) ∧ b ≤ s.size := by
  refine (number_is s r a ok w b o n e h ha hs).mono ?_
  rintro e' w' ⟨h1, h2, h3⟩
  have h4 := (nmP_le s a ok ha).2
  rw [e] at h4
  exact ⟨h1, h2, h3, h4⟩
set_option maxHeartbeats 32000000 in
set_option maxRecDepth 100000 in
theorem parse_calls (s : ByteArray) (w : World) :
    Calls Tryd.prog 18 #[.string s] w fun e w' => ParseTold w.heap.size (parse s) e w' ∧ Below w.heap.size w w' := by
  have hu := Tryd.underlying24
  have hu49 := Tryd.underlying49
  have hu4 := Tryd.underlying102
  have HB := Aside0.mk (Below.refl w.heap.size w)
  by_cases q : 1048576 < s.size
  · have ePz : parse s = (noT, 0, 3) := by unfold parse; rw [if_pos q]
    have q' : (s.size : Int) > 1048576 := by omega
    go_enter Tryd.func18, Tryd.ntmps18
    go_wp2_with ((with_reducible refine gate_dst (N := 2) rfl ?_); refine box_event ?hg2 (N := 2) ?hd2 (cs := #[.int .i64 0, .int .i64 0, .slice none 0 0, .int .i64 0]) (t := 24) ?hr2 ?_; (case hd2 => rfl); (case hg2 => rfl); (case hr2 => first | (go_simp; done) | (go_simp; rfl)); intro t2 hg_ Wa hbox hb; have B2 := Aside0.mk hbox; have G2 := Aside0.mk (show w.heap.size ≤ t2 by rw [hg_]; exact HB.out.size); have n_ := below_step HB.out hb; clear HB; have HB := Aside0.mk n_; clear n_ hbox hb hg_; obtain ⟨y0_, z0_⟩ := zcells B2.out 0; obtain ⟨y1_, z1_⟩ := zcells B2.out 1; obtain ⟨y2_, z2_⟩ := zcells B2.out 2; obtain ⟨y3_, z3_⟩ := zcells B2.out 3)
    refine bodyPost_ret (results_ctt rfl _ _ _ 24 zT (0, 0) _ rfl ?_ hu rfl (by kernel_rfl)) rfl ⟨by first | exact ParseTold.none _ _ _ _ | (rw [ePz]; exact ParseTold.none _ _ _ _), ?_⟩
    · exact blk_put (blk_put (blk_put (blk_put B2.out 0 (.int .i64 0) rfl) 1 (.int .i64 0) rfl) 2 (.slice none 0 0) rfl) 3 (.int .i64 0) rfl
    · exact below_set (below_set (below_set (below_set HB.out G2.out) G2.out) G2.out) G2.out
  · have HS := Aside0.mk (show s.size ≤ 1048576 by omega)
    have q' : ¬ ((s.size : Int) > 1048576) := by omega
    clear q
    go_enter Tryd.func18, Tryd.ntmps18
    go_wp2_with (first
      | ((with_reducible refine gate_dst (N := 2) rfl ?_); refine box_event ?hg2 (N := 2) ?hd2 (cs := #[.int .i64 0, .int .i64 0, .slice none 0 0, .int .i64 0]) (t := 24) ?hr2 ?_; (case hd2 => rfl); (case hg2 => rfl); (case hr2 => first | (go_simp; done) | (go_simp; rfl)); intro t2 hg_ Wa hbox hb; have B2 := Aside0.mk hbox; have G2 := Aside0.mk (show w.heap.size ≤ t2 by rw [hg_]; exact HB.out.size); have n_ := below_step HB.out hb; clear HB; have HB := Aside0.mk n_; clear n_ hbox hb hg_; obtain ⟨y0_, z0_⟩ := zcells B2.out 0; obtain ⟨y1_, z1_⟩ := zcells B2.out 1; obtain ⟨y2_, z2_⟩ := zcells B2.out 2; obtain ⟨y3_, z3_⟩ := zcells B2.out 3)
      | ((with_reducible refine gate_dst (N := 19) rfl ?_); refine box_event ?hg19 (N := 19) ?hd19 (cs := #[.string s, .int .i64 0, .bool true]) (t := 100) ?hr19 ?_; (case hd19 => rfl); (case hg19 => rfl); (case hr19 => first | (go_simp; done) | (go_simp; rfl)); intro r hg_ Wb hbox hb; have RD := Aside0.mk (show RdAt Wb r s 0 true from hbox); have GR := Aside0.mk (show w.heap.size ≤ r by rw [hg_]; exact HB.out.size); have n_ := below_step HB.out hb; have m_ := blk_below B2.out hb; clear HB B2; have HB := Aside0.mk n_; have B2 := Aside0.mk m_; clear n_ m_ hbox hb hg_ y0_ y1_ y2_ y3_ z0_ z1_ z2_ z3_)
      | (go_at_call 56; (with_reducible refine (takes_tree s r _ _ _ RD.out (Nat.zero_le _) HS.out).mono ?_); rintro e_ w2 ⟨rfl, hr_, hg_⟩; have m_ := blk_grown B2.out hg_ (fun e => ne_type B2.out RD.out (by decide) (by simpa using e)); have n_ := HB.out.grown hg_ HB.out.size (fun k hk => Option.some.inj hk ▸ GR.out); clear B2 HB RD hg_; have B2 := Aside0.mk m_; have HB := Aside0.mk n_; have RD := Aside0.mk hr_; clear m_ n_ hr_)
      | ((with_reducible refine gate_dst (N := 6) rfl ?_); refine box_event ?hg6 (N := 6) ?hd6 (cs := #[.int .i64 0, .int .i64 0, .int .i64 0, .int .i64 0]) (t := 102) ?hr6 ?_; (case hd6 => rfl); (case hg6 => rfl); (case hr6 => first | (go_simp; done) | (go_simp; rfl)); intro t6 hg_ Wc hbox hb; have B6 := Aside0.mk hbox; have G6 := Aside0.mk (show w.heap.size ≤ t6 by rw [hg_]; exact HB.out.size); have n_ := below_step HB.out hb; have m_ := blk_below B2.out hb; have o_ := blk_below RD.out hb; clear HB B2 RD; have HB := Aside0.mk n_; have B2 := Aside0.mk m_; have RD := Aside0.mk o_; clear n_ m_ o_ hbox hb hg_)
      | ((with_reducible refine gate_dst (N := 7) rfl ?_); refine box_event ?hg7 (N := 7) ?hd7 (cs := #[.int .i64 0, .int .i64 0, .int .i64 0, .int .i64 0]) (t := 102) ?hr7 ?_; (case hd7 => rfl); (case hg7 => rfl); (case hr7 => first | (go_simp; done) | (go_simp; rfl)); intro t7 hg_ Wd hbox hb; have HP := Aside0.mk (show PH w Wd s (hdQ s 0).1 (hdQ s 0).2 t2 r t6 t7 (arr4 (hdN s) 0) (arr4 (hdF s) 0) from ⟨blk_below RD.out hb, blk_below B2.out hb, blk_below B6.out hb, hbox, below_step HB.out hb, G2.out, GR.out, G6.out, by rw [hg_]; exact HB.out.size, by have := blk_lt B6.out; omega, hdQ_le s 0⟩); clear HB B2 RD B6 hbox hb hg_))
    go_loopg [22] 4 (fun g_ s22 wq => ∃ (x : Int) (i : Nat), s22 = .int .i64 x ∧ Aside0 (x = i ∧ i + g_ = 4) ∧ Aside0 (PH w wq s (hdQ s i).1 (hdQ s i).2 t2 r t6 t7 (arr4 (hdN s) i) (arr4 (hdF s) i)) ∧ Aside0 (3 ≤ i → ¬ ((hdQ s 3).2 = true ∧ 65536 < hdN s 2)))
    case atStart => exact ⟨0, 0, rfl, ⟨rfl, rfl⟩, HP, ⟨fun h => by omega⟩⟩
    case round =>
      clear HP
      obtain ⟨x, i, rfl, HI, HP, HN⟩ := hrel
      have hi4 : i = 0 ∨ i = 1 ∨ i = 2 ∨ i = 3 ∨ i = 4 := by have := HI.out.2; omega
      rcases hi4 with rfl | rfl | rfl | rfl | rfl
      · obtain rfl : x = 0 := HI.out.1
        go_upto_region 10 with (go_at_call 56; (with_reducible refine (takes_sp s r _ _ _ HP.out.rd HP.out.le HS.out).mono ?_); rintro e_ w2 ⟨rfl, hr_, hg_⟩; have HQ := Aside0.mk (HP.out.call hr_ hg_ (tkP_le s _ _ _ HP.out.le).2); clear HP hr_ hg_; have HP := HQ; clear HQ)
        obtain ⟨⟨c0, c1, c2⟩, z1, z2⟩ := HP.out.rd.cells
        obtain ⟨c7_, f7_⟩ := HP.out.cells7 0
        go_upto_region 11 with fail
        have HQ := Aside0.mk (show PH w _ s (tkP s pSp (hdQ s 0).1 (hdQ s 0).2).1 (tkP s pSp (hdQ s 0).1 (hdQ s 0).2).2 t2 r t6 t7 (arr4 (hdN s) 0) (arr4 (hdF s) (0 + 1)) from HP.out.put7 0 (.int .i64 ((tkP s pSp (hdQ s 0).1 (hdQ s 0).2).1 : Int)))
        clear HP c0 c1 c2 z1 z2 c7_ f7_
        have HP := HQ
        clear HQ
        generalize w2.setCell ⟨t7, 0, none⟩ (.int .i64 ((tkP s pSp (hdQ s 0).1 (hdQ s 0).2).1 : Int)) = Wg at *
        go_upto_region 12 with (go_at_call 57; (with_reducible refine (number_calls s r _ _ _ HP.out.rd HP.out.le HS.out).mono ?_); rintro e_ w2 ⟨rfl, hr_, hg_⟩; have HQ := Aside0.mk (HP.out.call hr_ hg_ (nmP_le s _ _ HP.out.le).2); clear HP hr_ hg_; have HP := HQ; clear HQ; obtain ⟨c6_, f6_⟩ := HP.out.cells6 0)
        have HQ := Aside0.mk (show PH w _ s (hdQ s (0 + 1)).1 (hdQ s (0 + 1)).2 t2 r t6 t7 (arr4 (hdN s) (0 + 1)) (arr4 (hdF s) (0 + 1)) from HP.out.put6 0 (.int .i64 ((nmP s (tkP s pSp (hdQ s 0).1 (hdQ s 0).2).1 (tkP s pSp (hdQ s 0).1 (hdQ s 0).2).2).2.2 : Int)))
        clear HP c6_ f6_
        have HP := HQ
        clear HQ
        generalize w2.setCell ⟨t6, 0, none⟩ (.int .i64 ((nmP s (tkP s pSp (hdQ s 0).1 (hdQ s 0).2).1 (tkP s pSp (hdQ s 0).1 (hdQ s 0).2).2).2.2 : Int)) = Wh at *
        go_wp2
        go_roundg 3
        case measure => go_light; have := HI.out.2; omega
        case rel =>
          go_light
          exact ⟨1, 1, by first | rfl | simp, ⟨rfl, by have := HI.out.2; omega⟩, HP, ⟨fun h => by omega⟩⟩
      · obtain rfl : x = 1 := HI.out.1
        go_upto_region 10 with (go_at_call 56; (with_reducible refine (takes_sp s r _ _ _ HP.out.rd HP.out.le HS.out).mono ?_); rintro e_ w2 ⟨rfl, hr_, hg_⟩; have HQ := Aside0.mk (HP.out.call hr_ hg_ (tkP_le s _ _ _ HP.out.le).2); clear HP hr_ hg_; have HP := HQ; clear HQ)
        obtain ⟨⟨c0, c1, c2⟩, z1, z2⟩ := HP.out.rd.cells
        obtain ⟨c7_, f7_⟩ := HP.out.cells7 1
        go_upto_region 11 with fail
        have HQ := Aside0.mk (show PH w _ s (tkP s pSp (hdQ s 1).1 (hdQ s 1).2).1 (tkP s pSp (hdQ s 1).1 (hdQ s 1).2).2 t2 r t6 t7 (arr4 (hdN s) 1) (arr4 (hdF s) (1 + 1)) from HP.out.put7 1 (.int .i64 ((tkP s pSp (hdQ s 1).1 (hdQ s 1).2).1 : Int)))
        clear HP c0 c1 c2 z1 z2 c7_ f7_
        have HP := HQ
        clear HQ
        generalize w2.setCell ⟨t7, 1, none⟩ (.int .i64 ((tkP s pSp (hdQ s 1).1 (hdQ s 1).2).1 : Int)) = Wg at *
        go_upto_region 12 with (go_at_call 57; (with_reducible refine (number_calls s r _ _ _ HP.out.rd HP.out.le HS.out).mono ?_); rintro e_ w2 ⟨rfl, hr_, hg_⟩; have HQ := Aside0.mk (HP.out.call hr_ hg_ (nmP_le s _ _ HP.out.le).2); clear HP hr_ hg_; have HP := HQ; clear HQ; obtain ⟨c6_, f6_⟩ := HP.out.cells6 1)
        have HQ := Aside0.mk (show PH w _ s (hdQ s (1 + 1)).1 (hdQ s (1 + 1)).2 t2 r t6 t7 (arr4 (hdN s) (1 + 1)) (arr4 (hdF s) (1 + 1)) from HP.out.put6 1 (.int .i64 ((nmP s (tkP s pSp (hdQ s 1).1 (hdQ s 1).2).1 (tkP s pSp (hdQ s 1).1 (hdQ s 1).2).2).2.2 : Int)))
        clear HP c6_ f6_
        have HP := HQ
        clear HQ
        generalize w2.setCell ⟨t6, 1, none⟩ (.int .i64 ((nmP s (tkP s pSp (hdQ s 1).1 (hdQ s 1).2).1 (tkP s pSp (hdQ s 1).1 (hdQ s 1).2).2).2.2 : Int)) = Wh at *
        go_wp2
        go_roundg 2
        case measure => go_light; have := HI.out.2; omega
        case rel =>
          go_light
          exact ⟨2, 2, by first | rfl | simp, ⟨rfl, by have := HI.out.2; omega⟩, HP, ⟨fun h => by omega⟩⟩
      · obtain rfl : x = 2 := HI.out.1
        go_upto_region 10 with (go_at_call 56; (with_reducible refine (takes_sp s r _ _ _ HP.out.rd HP.out.le HS.out).mono ?_); rintro e_ w2 ⟨rfl, hr_, hg_⟩; have HQ := Aside0.mk (HP.out.call hr_ hg_ (tkP_le s _ _ _ HP.out.le).2); clear HP hr_ hg_; have HP := HQ; clear HQ)
        obtain ⟨⟨c0, c1, c2⟩, z1, z2⟩ := HP.out.rd.cells
        obtain ⟨c7_, f7_⟩ := HP.out.cells7 2
        go_upto_region 11 with fail
        have HQ := Aside0.mk (show PH w _ s (tkP s pSp (hdQ s 2).1 (hdQ s 2).2).1 (tkP s pSp (hdQ s 2).1 (hdQ s 2).2).2 t2 r t6 t7 (arr4 (hdN s) 2) (arr4 (hdF s) (2 + 1)) from HP.out.put7 2 (.int .i64 ((tkP s pSp (hdQ s 2).1 (hdQ s 2).2).1 : Int)))
        clear HP c0 c1 c2 z1 z2 c7_ f7_
        have HP := HQ
        clear HQ
        generalize w2.setCell ⟨t7, 2, none⟩ (.int .i64 ((tkP s pSp (hdQ s 2).1 (hdQ s 2).2).1 : Int)) = Wg at *
        go_upto_region 12 with (go_at_call 57; (with_reducible refine (number_calls s r _ _ _ HP.out.rd HP.out.le HS.out).mono ?_); rintro e_ w2 ⟨rfl, hr_, hg_⟩; have HQ := Aside0.mk (HP.out.call hr_ hg_ (nmP_le s _ _ HP.out.le).2); clear HP hr_ hg_; have HP := HQ; clear HQ; obtain ⟨c6_, f6_⟩ := HP.out.cells6 2)
        have HQ := Aside0.mk (show PH w _ s (hdQ s (2 + 1)).1 (hdQ s (2 + 1)).2 t2 r t6 t7 (arr4 (hdN s) (2 + 1)) (arr4 (hdF s) (2 + 1)) from HP.out.put6 2 (.int .i64 ((nmP s (tkP s pSp (hdQ s 2).1 (hdQ s 2).2).1 (tkP s pSp (hdQ s 2).1 (hdQ s 2).2).2).2.2 : Int)))
        clear HP c6_ f6_
        have HP := HQ
        clear HQ
        generalize w2.setCell ⟨t6, 2, none⟩ (.int .i64 ((nmP s (tkP s pSp (hdQ s 2).1 (hdQ s 2).2).1 (tkP s pSp (hdQ s 2).1 (hdQ s 2).2).2).2.2 : Int)) = Wh at *
        obtain ⟨⟨c0, c1, c2⟩, z1, z2⟩ := HP.out.rd.cells
        obtain ⟨c6_, f6_⟩ := HP.out.cells6 2
        have c6' := c6_.trans (show (arr4 (hdN s) 3)[2]? = some (.int .i64 (hdN s 2 : Int)) from rfl)
        clear c6_
        by_cases hq : (hdQ s 3).2 = true
        · have c2' := c2.trans (congrArg (fun b => some (Value.bool b)) hq)
          clear c2
          by_cases hm : 65536 < hdN s 2
          · have hm' : ((hdN s 2 : Nat) : Int) > 65536 := by omega
            have ePz := parse_head s HS.out ⟨hq, hm⟩
            go_upto_region 13 with fail
            clear c0 c1 c2' z1 z2 c6' f6_
            obtain ⟨d7_, e7_⟩ := HP.out.cells7 2
            have d7 := d7_.trans (show (arr4 (hdF s) 3)[2]? = some (.int .i64 (hdF s 2 : Int)) from rfl)
            clear d7_ e7_
            have y0_ := (zcells HP.out.b2 0).1.trans (show zT[0]? = some (.int .i64 0) from rfl)
            have z0_ := (zcells HP.out.b2 0).2
            have y1_ := (zcells HP.out.b2 1).1.trans (show zT[1]? = some (.int .i64 0) from rfl)
            have z1_ := (zcells HP.out.b2 1).2
            have y2_ := (zcells HP.out.b2 2).1.trans (show zT[2]? = some (.slice none 0 0) from rfl)
            have z2_ := (zcells HP.out.b2 2).2
            have y3_ := (zcells HP.out.b2 3).1.trans (show zT[3]? = some (.int .i64 0) from rfl)
            have z3_ := (zcells HP.out.b2 3).2
            refine start_ (n := 6) (S := fun w' => w'.cell? ⟨t7, 2, none⟩ = some (.int .i64 (hdF s 2 : Int))) (ds := []) (pfx 0 6) (by kernel_rfl) rfl (by kernel_rfl) d7 (fun hHeld => ?_)
            refine with_tabW tab18_13 bits18_13 (fun HT_ HW_ => ?_)
            refine pure_ (i := 0) (N := (some 50)) (v := ?_) (a' := ?_) (pfx 1 6) rfl rfl (any_of HT_.out (by kernel_rfl)) (fun _ _ _ h => h) (Or.inl ⟨by rfl, ?_⟩) ?_ ?_
            rotate_left
            · intro w'
              go_simp
              with_reducible rfl
            rotate_left
            · simp only [Act.put, List.setIfInBounds_toArray, List.set_cons_zero, List.set_cons_succ, i64_w, i32_w]
              rfl
            refine pure_ (i := 1) (N := (some 51)) (v := ?_) (a' := ?_) (pfx 2 6) rfl rfl (any_of HT_.out (by kernel_rfl)) (fun _ _ _ h => h) (Or.inl ⟨by rfl, ?_⟩) ?_ ?_
            rotate_left
            · intro w'
              go_simp
              with_reducible rfl
            rotate_left
            · simp only [Act.put, List.setIfInBounds_toArray, List.set_cons_zero, List.set_cons_succ, i64_w, i32_w]
              rfl
            refine take_ (i := 2) (N := (some 52)) (v := ?_) (a' := ?_) (pfx 3 6) rfl rfl (take_ofW HT_.out HW_.out (by kernel_rfl)) (fun _ _ _ h => h) (Or.inl ⟨by rfl, ?_⟩) hHeld ?_ ?_
            rotate_left
            · intro w' s0
              go_simp
              with_reducible rfl
            rotate_left
            · simp only [Act.put, List.setIfInBounds_toArray, List.set_cons_zero, List.set_cons_succ, i64_w, i32_w]
              rfl
            refine one_ (i := 3) (N := none) (pfx 4 6) rfl rfl (one_of HT_.out (by kernel_rfl)) (by decide) (fun K hK => ?_)
            refine skip_ (w1 := ((((Wh.setCell ⟨t2, 0, none⟩ (.int .i64 0)).setCell ⟨t2, 1, none⟩ (.int .i64 0)).setCell ⟨t2, 2, none⟩ (.slice none 0 0)).setCell ⟨t2, 3, none⟩ (.int .i64 0)).drew) (by rfl) rfl ?_ ?_
            · go_simp
              first | done | rfl
            refine hK.out _ _ (HP.out.zero.2.2.trans (show (arr4 (hdF s) 3)[2]? = some (.int .i64 (hdF s 2 : Int)) from rfl)) (fun hHeld => ?_)
            clear hK K
            refine pure_ (i := 4) (N := (some 3)) (v := ?_) (a' := ?_) (pfx 5 6) rfl rfl (any_of HT_.out (by kernel_rfl)) (fun _ _ _ h => h) (Or.inl ⟨by rfl, ?_⟩) ?_ ?_
            rotate_left
            · intro w'
              go_simp
              with_reducible rfl
            rotate_left
            · simp only [Act.put, List.setIfInBounds_toArray, List.set_cons_zero, List.set_cons_succ, i64_w, i32_w]
              rfl
            refine pure_ (i := 5) (N := (some 4)) (v := ?_) (a' := ?_) (pfx 6 6) rfl rfl (any_of HT_.out (by kernel_rfl)) (fun _ _ _ h => h) (Or.inl ⟨by rfl, ?_⟩) ?_ ?_
            rotate_left
            · intro w'
              go_simp
              with_reducible rfl
            rotate_left
            · simp only [Act.put, List.setIfInBounds_toArray, List.set_cons_zero, List.set_cons_succ, i64_w, i32_w]
              rfl
            refine done_ (done_of HT_.out (by kernel_rfl)) ?_
            go_wp2
            refine bodyPost_ret (results_ctt rfl _ _ _ 24 zT (0, 0) _ rfl ?_ hu rfl (by kernel_rfl)) rfl ⟨by first | exact ParseTold.none _ _ _ _ | (rw [ePz]; exact ParseTold.none _ _ _ _), ?_⟩
            · exact HP.out.zero.1
            · exact below_drew HP.out.zero.2.1
          · have hm' : ¬ ((hdN s 2 : Nat) : Int) > 65536 := by omega
            go_wp2
            go_roundg 1
            case measure => go_light; have := HI.out.2; omega
            case rel =>
              go_light
              exact ⟨3, 3, by first | rfl | simp, ⟨rfl, by have := HI.out.2; omega⟩, HP, ⟨fun _ h => hm h.2⟩⟩
        · have hq : (hdQ s 3).2 = false := by simpa using hq
          have c2' := c2.trans (congrArg (fun b => some (Value.bool b)) hq)
          clear c2
          go_wp2
          go_roundg 1
          case measure => go_light; have := HI.out.2; omega
          case rel =>
            go_light
            exact ⟨3, 3, by first | rfl | simp, ⟨rfl, by have := HI.out.2; omega⟩, HP, ⟨fun _ h => by rw [hq] at h; exact absurd h.1 (by decide)⟩⟩
      · obtain rfl : x = 3 := HI.out.1
        go_upto_region 10 with (go_at_call 56; (with_reducible refine (takes_sp s r _ _ _ HP.out.rd HP.out.le HS.out).mono ?_); rintro e_ w2 ⟨rfl, hr_, hg_⟩; have HQ := Aside0.mk (HP.out.call hr_ hg_ (tkP_le s _ _ _ HP.out.le).2); clear HP hr_ hg_; have HP := HQ; clear HQ)
        obtain ⟨⟨c0, c1, c2⟩, z1, z2⟩ := HP.out.rd.cells
        obtain ⟨c7_, f7_⟩ := HP.out.cells7 3
        go_upto_region 11 with fail
        have HQ := Aside0.mk (show PH w _ s (tkP s pSp (hdQ s 3).1 (hdQ s 3).2).1 (tkP s pSp (hdQ s 3).1 (hdQ s 3).2).2 t2 r t6 t7 (arr4 (hdN s) 3) (arr4 (hdF s) (3 + 1)) from HP.out.put7 3 (.int .i64 ((tkP s pSp (hdQ s 3).1 (hdQ s 3).2).1 : Int)))
        clear HP c0 c1 c2 z1 z2 c7_ f7_
        have HP := HQ
        clear HQ
        generalize w2.setCell ⟨t7, 3, none⟩ (.int .i64 ((tkP s pSp (hdQ s 3).1 (hdQ s 3).2).1 : Int)) = Wg at *
        go_upto_region 12 with (go_at_call 57; (with_reducible refine (number_calls s r _ _ _ HP.out.rd HP.out.le HS.out).mono ?_); rintro e_ w2 ⟨rfl, hr_, hg_⟩; have HQ := Aside0.mk (HP.out.call hr_ hg_ (nmP_le s _ _ HP.out.le).2); clear HP hr_ hg_; have HP := HQ; clear HQ; obtain ⟨c6_, f6_⟩ := HP.out.cells6 3)
        have HQ := Aside0.mk (show PH w _ s (hdQ s (3 + 1)).1 (hdQ s (3 + 1)).2 t2 r t6 t7 (arr4 (hdN s) (3 + 1)) (arr4 (hdF s) (3 + 1)) from HP.out.put6 3 (.int .i64 ((nmP s (tkP s pSp (hdQ s 3).1 (hdQ s 3).2).1 (tkP s pSp (hdQ s 3).1 (hdQ s 3).2).2).2.2 : Int)))
        clear HP c6_ f6_
        have HP := HQ
        clear HQ
        generalize w2.setCell ⟨t6, 3, none⟩ (.int .i64 ((nmP s (tkP s pSp (hdQ s 3).1 (hdQ s 3).2).1 (tkP s pSp (hdQ s 3).1 (hdQ s 3).2).2).2.2 : Int)) = Wh at *
        go_wp2
        go_roundg 0
        case measure => go_light; have := HI.out.2; omega
        case rel =>
          go_light
          exact ⟨4, 4, by first | rfl | simp, ⟨rfl, by have := HI.out.2; omega⟩, HP, ⟨fun _ => HN.out (by decide)⟩⟩
      · obtain rfl : x = 4 := HI.out.1
        have HM := Aside0.mk (hdN2_le s (HN.out (by decide)))
        have hpe := parse_eq s HS.out (HN.out (by decide))
        clear HN HI
        go_upto_region 16 with (go_at_call 56; (with_reducible refine (takes_nl s r _ _ _ HP.out.rd HP.out.le HS.out).mono ?_); rintro e_ w2 ⟨rfl, hr_, hg_⟩; have HQ := Aside0.mk (show PH w _ s (hdE s).1 (hdE s).2 t2 r t6 t7 (arr4 (hdN s) 4) (arr4 (hdF s) 4) from HP.out.call hr_ hg_ (tkP_le s _ _ _ HP.out.le).2); clear HP hr_ hg_; have HP := HQ; clear HQ)
        have e0_ := (HP.out.cells6 0).1.trans (show (arr4 (hdN s) 4)[0]? = some (.int .i64 (hdN s 0 : Int)) from rfl)
        have e1_ := (HP.out.cells6 1).1.trans (show (arr4 (hdN s) 4)[1]? = some (.int .i64 (hdN s 1 : Int)) from rfl)
        have e3_ := (HP.out.cells6 3).1.trans (show (arr4 (hdN s) 4)[3]? = some (.int .i64 (hdN s 3 : Int)) from rfl)
        have e2_ := (HP.out.cells6 2).1.trans (show (arr4 (hdN s) 4)[2]? = some (.int .i64 (hdN s 2 : Int)) from rfl)
        go_upto_region 17 with ((with_reducible refine gate_dst (N := 9) rfl ?_); refine box_event ?hg9 (N := 9) ?hd9 (cs := #[.int .i64 0, .int .i64 0, .slice none 0 0, .int .i64 0]) (t := 24) ?hr9 ?_; (case hd9 => rfl); (case hg9 => rfl); (case hr9 => first | (go_simp; done) | (go_simp; rfl)); intro t9 hg_ We hbox hb; obtain ⟨y0_, z0_⟩ := zcells hbox 0; obtain ⟨y1_, z1_⟩ := zcells hbox 1; obtain ⟨y2_, z2_⟩ := zcells hbox 2; obtain ⟨y3_, z3_⟩ := zcells hbox 3; have HL2 := Aside0.mk (HP.out.tree hb hg_ hbox (hdN s 0) (hdN s 1) (hdN s 3)); clear hbox hb hg_ HP e0_ e1_ e2_ e3_)
        clear y0_ y1_ y2_ y3_ z0_ z1_ z2_ z3_
        generalize ((((We.setCell ⟨t9, 0, none⟩ (.int .i64 (hdN s 0 : Int))).setCell ⟨t9, 1, none⟩ (.int .i64 (hdN s 1 : Int))).setCell ⟨t9, 2, none⟩ (.slice none 0 0)).setCell ⟨t9, 3, none⟩ (.int .i64 (hdN s 3 : Int))) = Wf at *
        have HL := Aside0.mk HL2.out.1
        have e2_ := HL2.out.2.trans (show (arr4 (hdN s) 4)[2]? = some (.int .i64 (hdN s 2 : Int)) from rfl)
        clear HL2
        have HPE := Aside0.mk hpe
        clear hpe
        go_wp2
        go_loopg [10, 65] (hdN s 2) (fun g_ s10 s65 wq => ∃ (x : Nat) (sm : Bool) (nv : Value) (l : List S49) (K : List Value) (a : Nat) (ok : Bool), s65 = .int .i64 (x : Int) ∧ s10 = .bool sm ∧ Aside0 (x + g_ = hdN s 2 ∧ l.length ≤ x ∧ Bytes l ∧ lines s (hdN s 2) (hdE s).1 (hdE s).2 [] true = lines s g_ a ok l sm) ∧ Aside0 (PL w wq s a ok t2 r t9 (hdN s 0) (hdN s 1) (hdN s 3) nv l K))
        case atStart => exact ⟨0, true, _, [], [], _, _, rfl, rfl, ⟨by omega, Nat.le_refl _, fun y hy => by simp at hy, rfl⟩, HL⟩
        case round =>
          clear HL e2_
          obtain ⟨x, sm, nv, l, K, a, ok, rfl, rfl, HX, HL⟩ := hrel
          by_cases hxn : x < hdN s 2
          case neg =>
            have hxn' : ¬ (x : Int) < (hdN s 2 : Int) := by omega
            have e0 := HX.out.2.2.2
            rw [show gk = 0 by have := HX.out.1; omega] at e0
            have ePar := HPE.out
            rw [e0] at ePar
            replace ePar : parse s = parseE s ((a, ok), l, sm) := ePar
            clear e0 hxn
            cases ok
            · have ePz := ePar.trans (parseE_off _ _ _ _)
              clear ePar
              obtain ⟨⟨c0, c1, c2⟩, z1, z2⟩ := HL.out.rd.cells
              go_upto_region 35 with fail
              have y0_ := (zcells HL.out.b2 0).1.trans (show zT[0]? = some (.int .i64 0) from rfl)
              have z0_ := (zcells HL.out.b2 0).2
              have y1_ := (zcells HL.out.b2 1).1.trans (show zT[1]? = some (.int .i64 0) from rfl)
              have z1_ := (zcells HL.out.b2 1).2
              have y2_ := (zcells HL.out.b2 2).1.trans (show zT[2]? = some (.slice none 0 0) from rfl)
              have z2_ := (zcells HL.out.b2 2).2
              have y3_ := (zcells HL.out.b2 3).1.trans (show zT[3]? = some (.int .i64 0) from rfl)
              have z3_ := (zcells HL.out.b2 3).2
              clear c0 c2 z1 z2
              refine start_ (n := 8) (S := fun w' => w'.cell? ⟨r, 1, none⟩ = some (.int .i64 (a : Int))) (ds := []) (pfx 0 8) (by kernel_rfl) rfl (by kernel_rfl) c1 (fun hHeld => ?_)
              refine with_tabW tab18_35 bits18_35 (fun HT_ HW_ => ?_)
              refine pure_ (i := 0) (N := (some 127)) (v := ?_) (a' := ?_) (pfx 1 8) rfl rfl (any_of HT_.out (by kernel_rfl)) (fun _ _ _ h => h) (Or.inl ⟨by rfl, ?_⟩) ?_ ?_
              rotate_left
              · intro w'
                go_simp
                with_reducible rfl
              rotate_left
              · simp only [Act.put, List.setIfInBounds_toArray, List.set_cons_zero, List.set_cons_succ, i64_w, i32_w]
                rfl
              refine pure_ (i := 1) (N := (some 128)) (v := ?_) (a' := ?_) (pfx 2 8) rfl rfl (any_of HT_.out (by kernel_rfl)) (fun _ _ _ h => h) (Or.inl ⟨by rfl, ?_⟩) ?_ ?_
              rotate_left
              · intro w'
                go_simp
                with_reducible rfl
              rotate_left
              · simp only [Act.put, List.setIfInBounds_toArray, List.set_cons_zero, List.set_cons_succ, i64_w, i32_w]
                rfl
              refine pure_ (i := 2) (N := (some 129)) (v := ?_) (a' := ?_) (pfx 3 8) rfl rfl (any_of HT_.out (by kernel_rfl)) (fun _ _ _ h => h) (Or.inl ⟨by rfl, ?_⟩) ?_ ?_
              rotate_left
              · intro w'
                go_simp
                with_reducible rfl
              rotate_left
              · simp only [Act.put, List.setIfInBounds_toArray, List.set_cons_zero, List.set_cons_succ, i64_w, i32_w]
                rfl
              refine pure_ (i := 3) (N := (some 130)) (v := ?_) (a' := ?_) (pfx 4 8) rfl rfl (any_of HT_.out (by kernel_rfl)) (fun _ _ _ h => h) (Or.inl ⟨by rfl, ?_⟩) ?_ ?_
              rotate_left
              · intro w'
                go_simp
                with_reducible rfl
              rotate_left
              · simp only [Act.put, List.setIfInBounds_toArray, List.set_cons_zero, List.set_cons_succ, i64_w, i32_w]
                rfl
              refine take_ (i := 4) (N := (some 131)) (v := ?_) (a' := ?_) (pfx 5 8) rfl rfl (take_ofW HT_.out HW_.out (by kernel_rfl)) (fun _ _ _ h => h) (Or.inl ⟨by rfl, ?_⟩) hHeld ?_ ?_
              rotate_left
              · intro w' s0
                go_simp
                with_reducible rfl
              rotate_left
              · simp only [Act.put, List.setIfInBounds_toArray, List.set_cons_zero, List.set_cons_succ, i64_w, i32_w]
                rfl
              refine one_ (i := 5) (N := none) (pfx 6 8) rfl rfl (one_of HT_.out (by kernel_rfl)) (by decide) (fun K hK => ?_)
              refine skip_ (w1 := ((((wr.setCell ⟨t2, 0, none⟩ (.int .i64 0)).setCell ⟨t2, 1, none⟩ (.int .i64 0)).setCell ⟨t2, 2, none⟩ (.slice none 0 0)).setCell ⟨t2, 3, none⟩ (.int .i64 0)).drew) (by rfl) rfl ?_ ?_
              · go_simp
                first | done | rfl
              refine hK.out _ _ (HL.out.zero.2.2) (fun hHeld => ?_)
              clear hK K
              refine pure_ (i := 6) (N := (some 3)) (v := ?_) (a' := ?_) (pfx 7 8) rfl rfl (any_of HT_.out (by kernel_rfl)) (fun _ _ _ h => h) (Or.inl ⟨by rfl, ?_⟩) ?_ ?_
              rotate_left
              · intro w'
                go_simp
                with_reducible rfl
              rotate_left
              · simp only [Act.put, List.setIfInBounds_toArray, List.set_cons_zero, List.set_cons_succ, i64_w, i32_w]
                rfl
              refine pure_ (i := 7) (N := (some 4)) (v := ?_) (a' := ?_) (pfx 8 8) rfl rfl (any_of HT_.out (by kernel_rfl)) (fun _ _ _ h => h) (Or.inl ⟨by rfl, ?_⟩) ?_ ?_
              rotate_left
              · intro w'
                go_simp
                with_reducible rfl
              rotate_left
              · simp only [Act.put, List.setIfInBounds_toArray, List.set_cons_zero, List.set_cons_succ, i64_w, i32_w]
                rfl
              refine done_ (done_of HT_.out (by kernel_rfl)) ?_
              go_wp2
              refine bodyPost_ret (results_ctt rfl _ _ _ 24 zT (0, 0) _ rfl ?_ hu rfl (by kernel_rfl)) rfl ⟨by first | exact ParseTold.none _ _ _ _ | (rw [ePz]; exact ParseTold.none _ _ _ _), ?_⟩
              · exact HL.out.zero.1
              · exact below_drew HL.out.zero.2.1
            · by_cases hlt : a < s.size
              · have ePz := ePar.trans (parseE_lt s a l sm hlt)
                clear ePar
                have hlt' : (a : Int) < (s.size : Int) := by omega
                obtain ⟨⟨c0, c1, c2⟩, z1, z2⟩ := HL.out.rd.cells
                go_upto_region 35 with fail
                have y0_ := (zcells HL.out.b2 0).1.trans (show zT[0]? = some (.int .i64 0) from rfl)
                have z0_ := (zcells HL.out.b2 0).2
                have y1_ := (zcells HL.out.b2 1).1.trans (show zT[1]? = some (.int .i64 0) from rfl)
                have z1_ := (zcells HL.out.b2 1).2
                have y2_ := (zcells HL.out.b2 2).1.trans (show zT[2]? = some (.slice none 0 0) from rfl)
                have z2_ := (zcells HL.out.b2 2).2
                have y3_ := (zcells HL.out.b2 3).1.trans (show zT[3]? = some (.int .i64 0) from rfl)
                have z3_ := (zcells HL.out.b2 3).2
                clear c0 c2 z1 z2
                refine start_ (n := 8) (S := fun w' => w'.cell? ⟨r, 1, none⟩ = some (.int .i64 (a : Int))) (ds := []) (pfx 0 8) (by kernel_rfl) rfl (by kernel_rfl) c1 (fun hHeld => ?_)
                refine with_tabW tab18_35 bits18_35 (fun HT_ HW_ => ?_)
                refine pure_ (i := 0) (N := (some 127)) (v := ?_) (a' := ?_) (pfx 1 8) rfl rfl (any_of HT_.out (by kernel_rfl)) (fun _ _ _ h => h) (Or.inl ⟨by rfl, ?_⟩) ?_ ?_
                rotate_left
                · intro w'
                  go_simp
                  with_reducible rfl
                rotate_left
                · simp only [Act.put, List.setIfInBounds_toArray, List.set_cons_zero, List.set_cons_succ, i64_w, i32_w]
                  rfl
                refine pure_ (i := 1) (N := (some 128)) (v := ?_) (a' := ?_) (pfx 2 8) rfl rfl (any_of HT_.out (by kernel_rfl)) (fun _ _ _ h => h) (Or.inl ⟨by rfl, ?_⟩) ?_ ?_
                rotate_left
                · intro w'
                  go_simp
                  with_reducible rfl
                rotate_left
                · simp only [Act.put, List.setIfInBounds_toArray, List.set_cons_zero, List.set_cons_succ, i64_w, i32_w]
                  rfl
                refine pure_ (i := 2) (N := (some 129)) (v := ?_) (a' := ?_) (pfx 3 8) rfl rfl (any_of HT_.out (by kernel_rfl)) (fun _ _ _ h => h) (Or.inl ⟨by rfl, ?_⟩) ?_ ?_
                rotate_left
                · intro w'
                  go_simp
                  with_reducible rfl
                rotate_left
                · simp only [Act.put, List.setIfInBounds_toArray, List.set_cons_zero, List.set_cons_succ, i64_w, i32_w]
                  rfl
                refine pure_ (i := 3) (N := (some 130)) (v := ?_) (a' := ?_) (pfx 4 8) rfl rfl (any_of HT_.out (by kernel_rfl)) (fun _ _ _ h => h) (Or.inl ⟨by rfl, ?_⟩) ?_ ?_
                rotate_left
                · intro w'
                  go_simp
                  with_reducible rfl
                rotate_left
                · simp only [Act.put, List.setIfInBounds_toArray, List.set_cons_zero, List.set_cons_succ, i64_w, i32_w]
                  rfl
                refine take_ (i := 4) (N := (some 131)) (v := ?_) (a' := ?_) (pfx 5 8) rfl rfl (take_ofW HT_.out HW_.out (by kernel_rfl)) (fun _ _ _ h => h) (Or.inl ⟨by rfl, ?_⟩) hHeld ?_ ?_
                rotate_left
                · intro w' s0
                  go_simp
                  with_reducible rfl
                rotate_left
                · simp only [Act.put, List.setIfInBounds_toArray, List.set_cons_zero, List.set_cons_succ, i64_w, i32_w]
                  rfl
                refine one_ (i := 5) (N := none) (pfx 6 8) rfl rfl (one_of HT_.out (by kernel_rfl)) (by decide) (fun K hK => ?_)
                refine skip_ (w1 := ((((wr.setCell ⟨t2, 0, none⟩ (.int .i64 0)).setCell ⟨t2, 1, none⟩ (.int .i64 0)).setCell ⟨t2, 2, none⟩ (.slice none 0 0)).setCell ⟨t2, 3, none⟩ (.int .i64 0)).drew) (by rfl) rfl ?_ ?_
                · go_simp
                  first | done | rfl
                refine hK.out _ _ (HL.out.zero.2.2) (fun hHeld => ?_)
                clear hK K
                refine pure_ (i := 6) (N := (some 3)) (v := ?_) (a' := ?_) (pfx 7 8) rfl rfl (any_of HT_.out (by kernel_rfl)) (fun _ _ _ h => h) (Or.inl ⟨by rfl, ?_⟩) ?_ ?_
                rotate_left
                · intro w'
                  go_simp
                  with_reducible rfl
                rotate_left
                · simp only [Act.put, List.setIfInBounds_toArray, List.set_cons_zero, List.set_cons_succ, i64_w, i32_w]
                  rfl
                refine pure_ (i := 7) (N := (some 4)) (v := ?_) (a' := ?_) (pfx 8 8) rfl rfl (any_of HT_.out (by kernel_rfl)) (fun _ _ _ h => h) (Or.inl ⟨by rfl, ?_⟩) ?_ ?_
                rotate_left
                · intro w'
                  go_simp
                  with_reducible rfl
                rotate_left
                · simp only [Act.put, List.setIfInBounds_toArray, List.set_cons_zero, List.set_cons_succ, i64_w, i32_w]
                  rfl
                refine done_ (done_of HT_.out (by kernel_rfl)) ?_
                go_wp2
                refine bodyPost_ret (results_ctt rfl _ _ _ 24 zT (0, 0) _ rfl ?_ hu rfl (by kernel_rfl)) rfl ⟨by first | exact ParseTold.none _ _ _ _ | (rw [ePz]; exact ParseTold.none _ _ _ _), ?_⟩
                · exact HL.out.zero.1
                · exact below_drew HL.out.zero.2.1
              · have hlt' : ¬ (a : Int) < (s.size : Int) := by omega
                cases sm
                · have ePz := ePar.trans (parseE_big s a l hlt)
                  clear ePar
                  obtain ⟨⟨c0, c1, c2⟩, z1, z2⟩ := HL.out.rd.cells
                  have y0_ := (zcells HL.out.b2 0).1.trans (show zT[0]? = some (.int .i64 0) from rfl)
                  have z0_ := (zcells HL.out.b2 0).2
                  have y1_ := (zcells HL.out.b2 1).1.trans (show zT[1]? = some (.int .i64 0) from rfl)
                  have z1_ := (zcells HL.out.b2 1).2
                  have y2_ := (zcells HL.out.b2 2).1.trans (show zT[2]? = some (.slice none 0 0) from rfl)
                  have z2_ := (zcells HL.out.b2 2).2
                  have y3_ := (zcells HL.out.b2 3).1.trans (show zT[3]? = some (.int .i64 0) from rfl)
                  have z3_ := (zcells HL.out.b2 3).2
                  go_wp2
                  refine bodyPost_ret (results_ctt rfl _ _ _ 24 zT (0, 0) _ rfl ?_ hu rfl (by kernel_rfl)) rfl ⟨by first | exact ParseTold.none _ _ _ _ | (rw [ePz]; exact ParseTold.none _ _ _ _), ?_⟩
                  · exact HL.out.zero.1
                  · exact HL.out.zero.2.1
                · obtain ⟨An, cn, rfl⟩ := own_slice HL.out.nd.row
                  obtain ⟨_, hC, hcn⟩ := HL.out.nd.reads
                  obtain ⟨k, hk⟩ := chk_tree (hdN s 0) (hdN s 1) (hdN s 3) l HX.out.2.2.1
                  have HC := Aside0.mk hC
                  have HCC := Aside0.mk hcn
                  clear hC hcn
                  obtain ⟨⟨c0, c1, c2⟩, z1, z2⟩ := HL.out.rd.cells
                  have y0_ := (zcells HL.out.b2 0).1.trans (show zT[0]? = some (.int .i64 0) from rfl)
                  have z0_ := (zcells HL.out.b2 0).2
                  have y1_ := (zcells HL.out.b2 1).1.trans (show zT[1]? = some (.int .i64 0) from rfl)
                  have z1_ := (zcells HL.out.b2 1).2
                  have y2_ := (zcells HL.out.b2 2).1.trans (show zT[2]? = some (.slice none 0 0) from rfl)
                  have z2_ := (zcells HL.out.b2 2).2
                  have y3_ := (zcells HL.out.b2 3).1.trans (show zT[3]? = some (.int .i64 0) from rfl)
                  have z3_ := (zcells HL.out.b2 3).2
                  obtain ⟨x0_, u0_⟩ := zcells HL.out.b9 0
                  obtain ⟨x1_, u1_⟩ := zcells HL.out.b9 1
                  obtain ⟨x2_, u2_⟩ := zcells HL.out.b9 2
                  obtain ⟨x3_, u3_⟩ := zcells HL.out.b9 3
                  by_cases hck : chk (hdN s 0) (hdN s 1) l (hdN s 3) = 0
                  · have ePz := ePar.trans (parseE_ok s a l hlt hck)
                    clear ePar
                    rw [hck] at hk
                    have HK := Aside0.mk hk
                    clear hk
                    go_wp2_with (go_at_call 22; (with_reducible refine (tree_Check.calls k (hdN s 0) (hdN s 1) An cn l (hdN s 3) _ _ HC.out HCC.out HK.out).mono ?_); rintro e_ w5 ⟨rfl, hb⟩; have HQ := Aside0.mk (HL.out.on hb); clear HL hb; have HL := HQ; clear HQ y0_ y1_ y2_ y3_ z0_ z1_ z2_ z3_; have y0_ := (zcells HL.out.b2 0).1.trans (show zT[0]? = some (.int .i64 0) from rfl); have z0_ := (zcells HL.out.b2 0).2; have y1_ := (zcells HL.out.b2 1).1.trans (show zT[1]? = some (.int .i64 0) from rfl); have z1_ := (zcells HL.out.b2 1).2; have y2_ := (zcells HL.out.b2 2).1.trans (show zT[2]? = some (.slice none 0 0) from rfl); have z2_ := (zcells HL.out.b2 2).2; have y3_ := (zcells HL.out.b2 3).1.trans (show zT[3]? = some (.int .i64 0) from rfl); have z3_ := (zcells HL.out.b2 3).2; obtain ⟨x0_, u0_⟩ := zcells HL.out.b9 0; obtain ⟨x1_, u1_⟩ := zcells HL.out.b9 1; obtain ⟨x2_, u2_⟩ := zcells HL.out.b9 2; obtain ⟨x3_, u3_⟩ := zcells HL.out.b9 3)
                    refine bodyPost_ret (results_ctt rfl _ _ _ 24 #[.int .i64 (hdN s 0 : Int), .int .i64 (hdN s 1 : Int), .slice An l.length cn, .int .i64 (hdN s 3 : Int)] (0, 0) _ rfl ?_ hu rfl (by kernel_rfl)) rfl ⟨by first | exact ⟨_, K, rfl, HL.out.ret.2.1⟩ | (rw [ePz]; exact ⟨_, K, rfl, HL.out.ret.2.1⟩), ?_⟩
                    · exact HL.out.ret.1
                    · exact HL.out.ret.2.2
                  · have ePz := ePar.trans (parseE_bad s a l hlt hck)
                    clear ePar
                    have hck' := (chk_cases (hdN s 0) (hdN s 1) (hdN s 3) l).resolve_left hck
                    rw [hck'] at hk
                    have HK := Aside0.mk hk
                    clear hk
                    go_wp2_with (go_at_call 22; (with_reducible refine (tree_Check.calls k (hdN s 0) (hdN s 1) An cn l (hdN s 3) _ _ HC.out HCC.out HK.out).mono ?_); rintro e_ w5 ⟨rfl, hb⟩; have HQ := Aside0.mk (HL.out.on hb); clear HL hb; have HL := HQ; clear HQ y0_ y1_ y2_ y3_ z0_ z1_ z2_ z3_; have y0_ := (zcells HL.out.b2 0).1.trans (show zT[0]? = some (.int .i64 0) from rfl); have z0_ := (zcells HL.out.b2 0).2; have y1_ := (zcells HL.out.b2 1).1.trans (show zT[1]? = some (.int .i64 0) from rfl); have z1_ := (zcells HL.out.b2 1).2; have y2_ := (zcells HL.out.b2 2).1.trans (show zT[2]? = some (.slice none 0 0) from rfl); have z2_ := (zcells HL.out.b2 2).2; have y3_ := (zcells HL.out.b2 3).1.trans (show zT[3]? = some (.int .i64 0) from rfl); have z3_ := (zcells HL.out.b2 3).2; obtain ⟨x0_, u0_⟩ := zcells HL.out.b9 0; obtain ⟨x1_, u1_⟩ := zcells HL.out.b9 1; obtain ⟨x2_, u2_⟩ := zcells HL.out.b9 2; obtain ⟨x3_, u3_⟩ := zcells HL.out.b9 3)
                    refine bodyPost_ret (results_ctt rfl _ _ _ 24 zT (0, 0) _ rfl ?_ hu rfl (by kernel_rfl)) rfl ⟨by first | exact ParseTold.none _ _ _ _ | (rw [ePz]; exact ParseTold.none _ _ _ _), ?_⟩
                    · exact HL.out.zero.1
                    · exact HL.out.zero.2.1
          case pos =>
            have hxn' : (x : Int) < (hdN s 2 : Int) := by omega
            obtain ⟨m, rfl⟩ : ∃ d, gk = d + 1 := ⟨gk - 1, by have := HX.out.1; omega⟩
            clear hxn
            cases ok
            case false =>
              have ePar := HPE.out
              rw [HX.out.2.2.2, lines_off] at ePar
              have ePz := ePar.trans (parseE_off _ _ _ _)
              clear ePar
              obtain ⟨⟨c0, c1, c2⟩, z1, z2⟩ := HL.out.rd.cells
              go_upto_region 35 with fail
              have y0_ := (zcells HL.out.b2 0).1.trans (show zT[0]? = some (.int .i64 0) from rfl)
              have z0_ := (zcells HL.out.b2 0).2
              have y1_ := (zcells HL.out.b2 1).1.trans (show zT[1]? = some (.int .i64 0) from rfl)
              have z1_ := (zcells HL.out.b2 1).2
              have y2_ := (zcells HL.out.b2 2).1.trans (show zT[2]? = some (.slice none 0 0) from rfl)
              have z2_ := (zcells HL.out.b2 2).2
              have y3_ := (zcells HL.out.b2 3).1.trans (show zT[3]? = some (.int .i64 0) from rfl)
              have z3_ := (zcells HL.out.b2 3).2
              clear c0 c2 z1 z2
              refine start_ (n := 8) (S := fun w' => w'.cell? ⟨r, 1, none⟩ = some (.int .i64 (a : Int))) (ds := []) (pfx 0 8) (by kernel_rfl) rfl (by kernel_rfl) c1 (fun hHeld => ?_)
              refine with_tabW tab18_35 bits18_35 (fun HT_ HW_ => ?_)
              refine pure_ (i := 0) (N := (some 127)) (v := ?_) (a' := ?_) (pfx 1 8) rfl rfl (any_of HT_.out (by kernel_rfl)) (fun _ _ _ h => h) (Or.inl ⟨by rfl, ?_⟩) ?_ ?_
              rotate_left
              · intro w'
                go_simp
                with_reducible rfl
              rotate_left
              · simp only [Act.put, List.setIfInBounds_toArray, List.set_cons_zero, List.set_cons_succ, i64_w, i32_w]
                rfl
              refine pure_ (i := 1) (N := (some 128)) (v := ?_) (a' := ?_) (pfx 2 8) rfl rfl (any_of HT_.out (by kernel_rfl)) (fun _ _ _ h => h) (Or.inl ⟨by rfl, ?_⟩) ?_ ?_
              rotate_left
              · intro w'
                go_simp
                with_reducible rfl
              rotate_left
              · simp only [Act.put, List.setIfInBounds_toArray, List.set_cons_zero, List.set_cons_succ, i64_w, i32_w]
                rfl
              refine pure_ (i := 2) (N := (some 129)) (v := ?_) (a' := ?_) (pfx 3 8) rfl rfl (any_of HT_.out (by kernel_rfl)) (fun _ _ _ h => h) (Or.inl ⟨by rfl, ?_⟩) ?_ ?_
              rotate_left
              · intro w'
                go_simp
                with_reducible rfl
              rotate_left
              · simp only [Act.put, List.setIfInBounds_toArray, List.set_cons_zero, List.set_cons_succ, i64_w, i32_w]
                rfl
              refine pure_ (i := 3) (N := (some 130)) (v := ?_) (a' := ?_) (pfx 4 8) rfl rfl (any_of HT_.out (by kernel_rfl)) (fun _ _ _ h => h) (Or.inl ⟨by rfl, ?_⟩) ?_ ?_
              rotate_left
              · intro w'
                go_simp
                with_reducible rfl
              rotate_left
              · simp only [Act.put, List.setIfInBounds_toArray, List.set_cons_zero, List.set_cons_succ, i64_w, i32_w]
                rfl
              refine take_ (i := 4) (N := (some 131)) (v := ?_) (a' := ?_) (pfx 5 8) rfl rfl (take_ofW HT_.out HW_.out (by kernel_rfl)) (fun _ _ _ h => h) (Or.inl ⟨by rfl, ?_⟩) hHeld ?_ ?_
              rotate_left
              · intro w' s0
                go_simp
                with_reducible rfl
              rotate_left
              · simp only [Act.put, List.setIfInBounds_toArray, List.set_cons_zero, List.set_cons_succ, i64_w, i32_w]
                rfl
              refine one_ (i := 5) (N := none) (pfx 6 8) rfl rfl (one_of HT_.out (by kernel_rfl)) (by decide) (fun K hK => ?_)
              refine skip_ (w1 := ((((wr.setCell ⟨t2, 0, none⟩ (.int .i64 0)).setCell ⟨t2, 1, none⟩ (.int .i64 0)).setCell ⟨t2, 2, none⟩ (.slice none 0 0)).setCell ⟨t2, 3, none⟩ (.int .i64 0)).drew) (by rfl) rfl ?_ ?_
              · go_simp
                first | done | rfl
              refine hK.out _ _ (HL.out.zero.2.2) (fun hHeld => ?_)
              clear hK K
              refine pure_ (i := 6) (N := (some 3)) (v := ?_) (a' := ?_) (pfx 7 8) rfl rfl (any_of HT_.out (by kernel_rfl)) (fun _ _ _ h => h) (Or.inl ⟨by rfl, ?_⟩) ?_ ?_
              rotate_left
              · intro w'
                go_simp
                with_reducible rfl
              rotate_left
              · simp only [Act.put, List.setIfInBounds_toArray, List.set_cons_zero, List.set_cons_succ, i64_w, i32_w]
                rfl
              refine pure_ (i := 7) (N := (some 4)) (v := ?_) (a' := ?_) (pfx 8 8) rfl rfl (any_of HT_.out (by kernel_rfl)) (fun _ _ _ h => h) (Or.inl ⟨by rfl, ?_⟩) ?_ ?_
              rotate_left
              · intro w'
                go_simp
                with_reducible rfl
              rotate_left
              · simp only [Act.put, List.setIfInBounds_toArray, List.set_cons_zero, List.set_cons_succ, i64_w, i32_w]
                rfl
              refine done_ (done_of HT_.out (by kernel_rfl)) ?_
              go_wp2
              refine bodyPost_ret (results_ctt rfl _ _ _ 24 zT (0, 0) _ rfl ?_ hu rfl (by kernel_rfl)) rfl ⟨by first | exact ParseTold.none _ _ _ _ | (rw [ePz]; exact ParseTold.none _ _ _ _), ?_⟩
              · exact HL.out.zero.1
              · exact below_drew HL.out.zero.2.1
            case true =>
              have wx_ : wrap64 ((x : Int) + 1) = (x : Int) + 1 := by have := HX.out.1; have := HM.out; unfold wrap64; omega
              obtain ⟨⟨c0, c1, c2⟩, z1, z2⟩ := HL.out.rd.cells
              by_cases hnx : nx s a true 61 = true
              case pos =>
                obtain ⟨a1, o1, h1⟩ : ∃ b o, tkP s pEq a true = (b, o) := ⟨_, _, rfl⟩
                obtain ⟨a2, o2, n, h2⟩ : ∃ b o n, nmP s a1 o1 = (b, o, n) := ⟨_, _, _, rfl⟩
                obtain ⟨a3, o3, h3⟩ : ∃ b o, tkP s pNl a2 o2 = (b, o) := ⟨_, _, rfl⟩
                have hl := line_eq hnx h1 h2 h3
                go_upto_region 25 with (first
                      | ((with_reducible refine gate_dst (N := 11) rfl ?_); refine box_event ?hg11 (N := 11) ?hd11 (cs := #[.int .u8 0, .slice none 0 0]) (t := 49) ?hr11 ?_; (case hd11 => rfl); (case hg11 => rfl); (case hr11 => first | (go_simp; done) | (go_simp; rfl)); intro t11 hg_ Wg hbox hb; have HR := Aside0.mk (HL.out.round hb hg_ hbox); clear HL hbox hb hg_ c0 c1 c2 z1 z2)
                      | (go_at_call 58; (with_reducible refine (next_is s r _ _ 61 _ _ hnx HR.out.pl.rd HR.out.pl.le HS.out).mono ?_); rintro e_ w3 ⟨rfl, hb⟩; have HQ := Aside0.mk (HR.out.on hb); clear HR hb; have HR := HQ; clear HQ)
                      | (go_at_call 56; (with_reducible refine (takes_eq_is s r _ _ _ _ _ h1 HR.out.pl.rd HR.out.pl.le HS.out).mono ?_); rintro e_ w2 ⟨rfl, hr_, hg_, hl_⟩; have HQ := Aside0.mk (HR.out.call hr_ hg_ hl_); clear hl_; clear HR hr_ hg_; have HR := HQ; clear HQ)
                      | (go_at_call 57; (with_reducible refine (number_has s r _ _ _ _ _ _ h2 HR.out.pl.rd HR.out.pl.le HS.out).mono ?_); rintro e_ w2 ⟨rfl, hr_, hg_, hl_⟩; have HQ := Aside0.mk (HR.out.call hr_ hg_ hl_); clear hl_; clear HR hr_ hg_; have HR := HQ; clear HQ))
                obtain ⟨v0_, u0_⟩ := zcells HR.out.b11 0
                have hnil : ∃ Ak ck, (Value.slice none 0 0) = .slice Ak ([] : List Int).length ck := ⟨none, 0, rfl⟩
                cases sm
                case false =>
                  go_upto_region 31 with fail
                  have HQ := Aside0.mk (HR.out.state ((n : Int) % 256))
                  clear HR v0_ u0_
                  have HR := HQ
                  clear HQ
                  go_upto_region 33 with (first
                        | (go_at_call 56; (with_reducible refine (takes_nl_is s r _ _ _ _ _ h3 HR.out.pl.rd HR.out.pl.le HS.out).mono ?_); rintro e_ w2 ⟨rfl, hr_, hg_, hl_⟩; have HQ := Aside0.mk (HR.out.call hr_ hg_ hl_); clear hl_; clear HR hr_ hg_; have HR := HQ; clear HQ; obtain ⟨x2_, u2_⟩ := zcells HR.out.pl.b9 2; obtain ⟨v0_, _⟩ := zcells HR.out.b11 0; obtain ⟨v1_, _⟩ := zcells HR.out.b11 1)
                        | ((with_reducible refine gate_builtin (b := .append) (xs := #[.tmp 107, .tmp 109]) rfl ?_); at_builtin; refine print_append_cells (w0 := w) (W := w2) w.heap.size rfl (.tmp 107) (.tmp 109) 22 49 (.agg #[.int .u8 0, .slice none 0 0]) 2 32 rfl Tryd.underlying22 (by kernel_rfl) rfl (by decide) (by decide) nv l.length (bcells l K l.length) [.int .u8 ((n : Int) % 256), .slice none 0 0] rfl rfl rfl (by intro u hu; simp at hu; rcases hu with hu | hu; (rw [hu]; rfl); (rw [hu]; rfl)) HR.out.pl.nd.row HR.out.pl.be HR.out.pl.be.size (by have := HX.out.1; have := HX.out.2.1; have := HM.out; omega) ?_; intro nv' w4 ho_ hb_ hg_ hat_; obtain ⟨An', cn', rfl⟩ := own_slice ho_; have HL := Aside0.mk (HR.out.node ho_ hg_); obtain ⟨x2_, u2_⟩ := zcells (HR.out.b9' hg_) 2; clear HR ho_ hb_ hg_ hat_ v0_ v1_))
                  go_wp2
                  go_roundg m
                  case measure => go_light; omega
                  case rel =>
                    go_light
                    exact ⟨x + 1, _, _, l ++ [⟨((n : Int) % 256), ([] : List Int)⟩], _, a3, o3, by simp [wx_], rfl, ⟨by have := HX.out.1; omega, by have := HX.out.2.1; simp; omega, bytes_snoc HX.out.2.2.1 (by first | exact ⟨by decide, by decide⟩ | (dsimp only; constructor <;> omega)), by rw [HX.out.2.2.2, lines_step hl]; simp⟩, HL⟩
                case true =>
                  by_cases hn : (n : Int) < 256
                  case pos =>
                    rw [show (n : Int) % 256 = n by omega] at hl
                    go_upto_region 31 with fail
                    have HQ := Aside0.mk (HR.out.state (n : Int))
                    clear HR v0_ u0_
                    have HR := HQ
                    clear HQ
                    go_upto_region 33 with (first
                          | (go_at_call 56; (with_reducible refine (takes_nl_is s r _ _ _ _ _ h3 HR.out.pl.rd HR.out.pl.le HS.out).mono ?_); rintro e_ w2 ⟨rfl, hr_, hg_, hl_⟩; have HQ := Aside0.mk (HR.out.call hr_ hg_ hl_); clear hl_; clear HR hr_ hg_; have HR := HQ; clear HQ; obtain ⟨x2_, u2_⟩ := zcells HR.out.pl.b9 2; obtain ⟨v0_, _⟩ := zcells HR.out.b11 0; obtain ⟨v1_, _⟩ := zcells HR.out.b11 1)
                          | ((with_reducible refine gate_builtin (b := .append) (xs := #[.tmp 107, .tmp 109]) rfl ?_); at_builtin; refine print_append_cells (w0 := w) (W := w2) w.heap.size rfl (.tmp 107) (.tmp 109) 22 49 (.agg #[.int .u8 0, .slice none 0 0]) 2 32 rfl Tryd.underlying22 (by kernel_rfl) rfl (by decide) (by decide) nv l.length (bcells l K l.length) [.int .u8 (n : Int), .slice none 0 0] rfl rfl rfl (by intro u hu; simp at hu; rcases hu with hu | hu; (rw [hu]; rfl); (rw [hu]; rfl)) HR.out.pl.nd.row HR.out.pl.be HR.out.pl.be.size (by have := HX.out.1; have := HX.out.2.1; have := HM.out; omega) ?_; intro nv' w4 ho_ hb_ hg_ hat_; obtain ⟨An', cn', rfl⟩ := own_slice ho_; have HL := Aside0.mk (HR.out.node ho_ hg_); obtain ⟨x2_, u2_⟩ := zcells (HR.out.b9' hg_) 2; clear HR ho_ hb_ hg_ hat_ v0_ v1_))
                    go_wp2
                    go_roundg m
                    case measure => go_light; omega
                    case rel =>
                      go_light
                      exact ⟨x + 1, _, _, l ++ [⟨(n : Int), ([] : List Int)⟩], _, a3, o3, by simp [wx_], rfl, ⟨by have := HX.out.1; omega, by have := HX.out.2.1; simp; omega, bytes_snoc HX.out.2.2.1 (by first | exact ⟨by decide, by decide⟩ | (dsimp only; constructor <;> omega)), by rw [HX.out.2.2.2, lines_step hl]; simp [hn]⟩, HL⟩
                  case neg =>
                    have HNN := Aside0.mk hn
                    go_upto_region 31 with fail
                    have HQ := Aside0.mk (HR.out.state ((n : Int) % 256))
                    clear HR v0_ u0_
                    have HR := HQ
                    clear HQ
                    go_upto_region 33 with (first
                          | (go_at_call 56; (with_reducible refine (takes_nl_is s r _ _ _ _ _ h3 HR.out.pl.rd HR.out.pl.le HS.out).mono ?_); rintro e_ w2 ⟨rfl, hr_, hg_, hl_⟩; have HQ := Aside0.mk (HR.out.call hr_ hg_ hl_); clear hl_; clear HR hr_ hg_; have HR := HQ; clear HQ; obtain ⟨x2_, u2_⟩ := zcells HR.out.pl.b9 2; obtain ⟨v0_, _⟩ := zcells HR.out.b11 0; obtain ⟨v1_, _⟩ := zcells HR.out.b11 1)
                          | ((with_reducible refine gate_builtin (b := .append) (xs := #[.tmp 107, .tmp 109]) rfl ?_); at_builtin; refine print_append_cells (w0 := w) (W := w2) w.heap.size rfl (.tmp 107) (.tmp 109) 22 49 (.agg #[.int .u8 0, .slice none 0 0]) 2 32 rfl Tryd.underlying22 (by kernel_rfl) rfl (by decide) (by decide) nv l.length (bcells l K l.length) [.int .u8 ((n : Int) % 256), .slice none 0 0] rfl rfl rfl (by intro u hu; simp at hu; rcases hu with hu | hu; (rw [hu]; rfl); (rw [hu]; rfl)) HR.out.pl.nd.row HR.out.pl.be HR.out.pl.be.size (by have := HX.out.1; have := HX.out.2.1; have := HM.out; omega) ?_; intro nv' w4 ho_ hb_ hg_ hat_; obtain ⟨An', cn', rfl⟩ := own_slice ho_; have HL := Aside0.mk (HR.out.node ho_ hg_); obtain ⟨x2_, u2_⟩ := zcells (HR.out.b9' hg_) 2; clear HR ho_ hb_ hg_ hat_ v0_ v1_))
                    go_wp2
                    go_roundg m
                    case measure => go_light; omega
                    case rel =>
                      go_light
                      exact ⟨x + 1, _, _, l ++ [⟨((n : Int) % 256), ([] : List Int)⟩], _, a3, o3, by simp [wx_], rfl, ⟨by have := HX.out.1; omega, by have := HX.out.2.1; simp; omega, bytes_snoc HX.out.2.2.1 (by first | exact ⟨by decide, by decide⟩ | (dsimp only; constructor <;> omega)), by rw [HX.out.2.2.2, lines_step hl]; rw [decide_eq_false (show ¬ (n : Int) < 256 by have := HNN.out; omega)]; rfl⟩, HL⟩
              case neg =>
                have hnx : nx s a true 61 = false := by simpa using hnx
                obtain ⟨a1, o1, n, h1⟩ : ∃ b o n, nmP s a true = (b, o, n) := ⟨_, _, _, rfl⟩
                obtain ⟨a2, o2, ks2, h2⟩ : ∃ b o ks, kidsR s (s.size - a1) a1 o1 [(n : Int)] = (b, o, ks) := ⟨_, _, _, rfl⟩
                obtain ⟨a3, o3, h3⟩ : ∃ b o, tkP s pNl a2 o2 = (b, o) := ⟨_, _, rfl⟩
                have hl := line_kids hnx h1 h2 h3
                go_upto_region 27 with (first
                      | ((with_reducible refine gate_dst (N := 11) rfl ?_); refine box_event ?hg11 (N := 11) ?hd11 (cs := #[.int .u8 0, .slice none 0 0]) (t := 49) ?hr11 ?_; (case hd11 => rfl); (case hg11 => rfl); (case hr11 => first | (go_simp; done) | (go_simp; rfl)); intro t11 hg_ Wg hbox hb; have HR := Aside0.mk (HL.out.round hb hg_ hbox); clear HL hbox hb hg_ c0 c1 c2 z1 z2)
                      | (go_at_call 58; (with_reducible refine (next_is s r _ _ 61 _ _ hnx HR.out.pl.rd HR.out.pl.le HS.out).mono ?_); rintro e_ w3 ⟨rfl, hb⟩; have HQ := Aside0.mk (HR.out.on hb); clear HR hb; have HR := HQ; clear HQ))
                have hbd := below_drew (Below.refl w3.heap.size w3)
                have HQ := Aside0.mk (HR.out.on hbd)
                clear HR hbd
                have HR := HQ
                clear HQ
                refine start_ (n := 8) (S := fun w' => w'.cell? ⟨t11, 1, none⟩ = some (.slice none 0 0)) (ds := [7]) (pfx 0 8) (by kernel_rfl) rfl (by kernel_rfl) (zcells HR.out.b11 1).1 (fun hHeld => ?_)
                refine with_tabW tab18_27 bits18_27 (fun HT_ HW_ => ?_)
                refine pure_ (i := 0) (N := (some 86)) (v := ?_) (a' := ?_) (pfx 1 8) rfl rfl (any_of HT_.out (by kernel_rfl)) (fun _ _ _ h => h) (Or.inl ⟨by rfl, ?_⟩) ?_ ?_
                rotate_left
                · intro w'
                  go_simp
                  with_reducible rfl
                rotate_left
                · simp only [Act.put, List.setIfInBounds_toArray, List.set_cons_zero, List.set_cons_succ, i64_w, i32_w]
                  rfl
                refine take_ (i := 1) (N := (some 87)) (v := ?_) (a' := ?_) (pfx 2 8) rfl rfl (take_ofW HT_.out HW_.out (by kernel_rfl)) (fun _ _ _ h => h) (Or.inl ⟨by rfl, ?_⟩) hHeld ?_ ?_
                rotate_left
                · intro w' s0
                  go_simp
                  with_reducible rfl
                rotate_left
                · simp only [Act.put, List.setIfInBounds_toArray, List.set_cons_zero, List.set_cons_succ, i64_w, i32_w]
                  rfl
                refine pure_ (i := 2) (N := (some 88)) (v := ?_) (a' := ?_) (pfx 3 8) rfl rfl (any_of HT_.out (by kernel_rfl)) (fun _ _ _ h => h) (Or.inl ⟨by rfl, ?_⟩) ?_ ?_
                rotate_left
                · intro w'
                  go_simp
                  with_reducible rfl
                rotate_left
                · simp only [Act.put, List.setIfInBounds_toArray, List.set_cons_zero, List.set_cons_succ, i64_w, i32_w]
                  rfl
                refine one_ (i := 3) (N := (some 89)) (pfx 4 8) rfl rfl (one_of HT_.out (by kernel_rfl)) (by decide) (fun K_ hK => ?_)
                refine goes_ Tryd.func57 (by kernel_rfl) rfl #[.pointer (some ⟨r, 0, none⟩)] (by rfl) rfl rfl (by (try simp only [List.map_toArray, List.map_cons, List.map_nil]); first | done | rfl) ?_
                with_reducible refine (number_has s r _ _ _ _ _ _ h1 HR.out.pl.rd HR.out.pl.le HS.out).mono ?_
                rintro e_ w5 ⟨rfl, hr_, hg_, hl_⟩
                refine ⟨_, rfl, ?_⟩
                have HQ := Aside0.mk (HR.out.call hr_ hg_ hl_)
                clear HR hr_ hg_ hl_
                have HR := HQ
                clear HQ
                refine hK.out _ _ (zcells HR.out.b11 1).1 (fun hHeld => ?_)
                clear hK K_
                refine one_ (i := 4) (N := (some 90)) (pfx 5 8) rfl rfl (one_of HT_.out (by kernel_rfl)) (by decide) (fun K_ hK => ?_)
                refine value_ (w1 := w5.alloc (.cells #[.int .i64 (n : Int)] 3)) (v := .slice (some ⟨w5.heap.size, 0, none⟩) 1 1) (by rfl) rfl ?_ ?_
                · go_simp
                  first | done | rfl
                refine hK.out _ _ (pw_cell_below (below_alloc (Below.refl _ _) _) (zcells HR.out.b11 1).1) (fun hHeld => ?_)
                clear hK K_
                refine one_ (i := 5) (N := (some 91)) (pfx 6 8) rfl rfl (one_of HT_.out (by kernel_rfl)) (by decide) (fun K_ hK => ?_)
                refine step_append_cells (w0 := w) (W := w5) w.heap.size (by rfl) (.tmp 87) (.tmp 90) 47 3 (.int .i64 0) 1 8 rfl Tryd.underlying47 (by kernel_rfl) rfl (by decide) (by decide) (.slice none 0 0) ([] : List Int).length (nums .i64 ([] : List Int)) [.int .i64 (n : Int)] rfl rfl rfl (by intro u hu; simp at hu; rw [hu]; rfl) HR.out.kid HR.out.pl.be HR.out.pl.be.size (by decide) ?_
                intro kv' w6 ho_ hb_ hg_ hat_
                obtain ⟨Ak2, ck2, rfl⟩ := own_slice ho_
                have HQ := Aside0.mk (HR.out.push (n : Int) ho_ hg_ hat_)
                obtain ⟨v1_, u1_⟩ := zcells (HR.out.b11' hg_) 1
                clear HR ho_ hb_ hg_ hat_
                have HR := HQ
                clear HQ
                refine hK.out (Act.put _ (some 91) _) _ v1_ (fun hHeld => ?_)
                clear hK K_
                refine pure_ (i := 6) (N := (some 92)) (v := ?_) (a' := ?_) (pfx 7 8) rfl rfl (any_of HT_.out (by kernel_rfl)) (fun _ _ _ h => h) (Or.inl ⟨by rfl, ?_⟩) ?_ ?_
                rotate_left
                · intro w'
                  go_simp
                  with_reducible rfl
                rotate_left
                · simp only [Act.put, List.setIfInBounds_toArray, List.set_cons_zero, List.set_cons_succ, i64_w, i32_w]
                  rfl
                refine last_ (i := 7) (N := none) (pfx 8 8) rfl rfl (one_of HT_.out (by kernel_rfl)) (by decide) (fun K_ hK => ?_)
                refine skip_ (w1 := w6.setCell ⟨t11, 1, none⟩ (.slice Ak2 (([] : List Int).length + 1) ck2)) (by rfl) rfl ?_ ?_
                · go_simp
                  first | done | rfl
                refine hK.out _ _ ?_
                clear hK K_
                refine done_ (done_of HT_.out (by kernel_rfl)) ?_
                clear hHeld v1_ u1_ hnx h1
                have HH := Aside0.mk (And.intro h2 h3)
                have HLn := Aside0.mk hl
                clear h2 h3 hl
                go_wp2
                go_loopg [94] (s.size - a1) (fun g_ s94 wq => ∃ (b : Nat) (o : Bool) (kv : Value) (ks : List Int), Aside0 (kidsR s g_ b o ks = (a2, o2, ks2) ∧ ks.length + g_ ≤ s.size + 1 ∧ s.size ≤ b + g_) ∧ Aside0 (PR w wq s b o t2 r t9 (hdN s 0) (hdN s 1) (hdN s 3) nv l K t11 0 kv ks))
                case atStart => exact ⟨a1, o1, _, [(n : Int)], ⟨HH.out.1, by simp; omega, by have := HR.out.pl.le; omega⟩, HR⟩
                case round =>
                  clear HR
                  obtain ⟨b, o, kv, ks, HY, HR⟩ := hrel
                  obtain ⟨Ak, ck, rfl⟩ := own_slice HR.out.kid
                  by_cases hny : nx s b o 32 = true
                  case pos =>
                    obtain ⟨j, rfl⟩ : ∃ d, gk = d + 1 := ⟨gk - 1, by have := HY.out.2.2; have := (nx_lt hny).2.1; omega⟩
                    have h4 := tk_sp hny
                    obtain ⟨b2, p2, n, h5⟩ : ∃ b' o' n', nmP s (b + 1) true = (b', o', n') := ⟨_, _, _, rfl⟩
                    have hk := kidsR_on (d := j) (ks := ks) hny h4 h5
                    have HKR := Aside0.mk hk
                    clear hk
                    go_upto_region 30 with (first
                          | (go_at_call 58; (with_reducible refine (next_is s r _ _ 32 _ _ hny HR.out.pl.rd HR.out.pl.le HS.out).mono ?_); rintro e_ w3 ⟨rfl, hb⟩; have HQ := Aside0.mk (HR.out.on hb); clear HR hb; have HR := HQ; clear HQ)
                          | (go_at_call 56; (with_reducible refine (takes_sp_is s r _ _ _ _ _ h4 HR.out.pl.rd HR.out.pl.le HS.out).mono ?_); rintro e_ w2 ⟨rfl, hr_, hg_, hl_⟩; have HQ := Aside0.mk (HR.out.call hr_ hg_ hl_); clear hl_; clear HR hr_ hg_; have HR := HQ; clear HQ))
                    have hbd := below_drew (Below.refl w2.heap.size w2)
                    have HQ := Aside0.mk (HR.out.on hbd)
                    clear HR hbd
                    have HR := HQ
                    clear HQ
                    refine start_ (n := 8) (S := fun w' => w'.cell? ⟨t11, 1, none⟩ = some (.slice Ak ks.length ck)) (ds := [7]) (pfx 0 8) (by kernel_rfl) rfl (by kernel_rfl) (zcells HR.out.b11 1).1 (fun hHeld => ?_)
                    refine with_tabW tab18_30 bits18_30 (fun HT_ HW_ => ?_)
                    refine pure_ (i := 0) (N := (some 97)) (v := ?_) (a' := ?_) (pfx 1 8) rfl rfl (any_of HT_.out (by kernel_rfl)) (fun _ _ _ h => h) (Or.inl ⟨by rfl, ?_⟩) ?_ ?_
                    rotate_left
                    · intro w'
                      go_simp
                      with_reducible rfl
                    rotate_left
                    · simp only [Act.put, List.setIfInBounds_toArray, List.set_cons_zero, List.set_cons_succ, i64_w, i32_w]
                      rfl
                    refine take_ (i := 1) (N := (some 98)) (v := ?_) (a' := ?_) (pfx 2 8) rfl rfl (take_ofW HT_.out HW_.out (by kernel_rfl)) (fun _ _ _ h => h) (Or.inl ⟨by rfl, ?_⟩) hHeld ?_ ?_
                    rotate_left
                    · intro w' s0
                      go_simp
                      with_reducible rfl
                    rotate_left
                    · simp only [Act.put, List.setIfInBounds_toArray, List.set_cons_zero, List.set_cons_succ, i64_w, i32_w]
                      rfl
                    refine pure_ (i := 2) (N := (some 99)) (v := ?_) (a' := ?_) (pfx 3 8) rfl rfl (any_of HT_.out (by kernel_rfl)) (fun _ _ _ h => h) (Or.inl ⟨by rfl, ?_⟩) ?_ ?_
                    rotate_left
                    · intro w'
                      go_simp
                      with_reducible rfl
                    rotate_left
                    · simp only [Act.put, List.setIfInBounds_toArray, List.set_cons_zero, List.set_cons_succ, i64_w, i32_w]
                      rfl
                    refine one_ (i := 3) (N := (some 100)) (pfx 4 8) rfl rfl (one_of HT_.out (by kernel_rfl)) (by decide) (fun K_ hK => ?_)
                    refine goes_ Tryd.func57 (by kernel_rfl) rfl #[.pointer (some ⟨r, 0, none⟩)] (by rfl) rfl rfl (by (try simp only [List.map_toArray, List.map_cons, List.map_nil]); first | done | rfl) ?_
                    with_reducible refine (number_has s r _ _ _ _ _ _ h5 HR.out.pl.rd HR.out.pl.le HS.out).mono ?_
                    rintro e_ w5 ⟨rfl, hr_, hg_, hl_⟩
                    refine ⟨_, rfl, ?_⟩
                    have HQ := Aside0.mk (HR.out.call hr_ hg_ hl_)
                    clear HR hr_ hg_ hl_
                    have HR := HQ
                    clear HQ
                    refine hK.out _ _ (zcells HR.out.b11 1).1 (fun hHeld => ?_)
                    clear hK K_
                    refine one_ (i := 4) (N := (some 101)) (pfx 5 8) rfl rfl (one_of HT_.out (by kernel_rfl)) (by decide) (fun K_ hK => ?_)
                    refine value_ (w1 := w5.alloc (.cells #[.int .i64 (n : Int)] 3)) (v := .slice (some ⟨w5.heap.size, 0, none⟩) 1 1) (by rfl) rfl ?_ ?_
                    · go_simp
                      first | done | rfl
                    refine hK.out _ _ (pw_cell_below (below_alloc (Below.refl _ _) _) (zcells HR.out.b11 1).1) (fun hHeld => ?_)
                    clear hK K_
                    refine one_ (i := 5) (N := (some 102)) (pfx 6 8) rfl rfl (one_of HT_.out (by kernel_rfl)) (by decide) (fun K_ hK => ?_)
                    refine step_append_cells (w0 := w) (W := w5) w.heap.size (by rfl) (.tmp 98) (.tmp 101) 47 3 (.int .i64 0) 1 8 rfl Tryd.underlying47 (by kernel_rfl) rfl (by decide) (by decide) (.slice Ak ks.length ck) ks.length (nums .i64 ks) [.int .i64 (n : Int)] rfl rfl rfl (by intro u hu; simp at hu; rw [hu]; rfl) HR.out.kid HR.out.pl.be HR.out.pl.be.size (by have := HY.out.2.1; have := HS.out; omega) ?_
                    intro kv' w6 ho_ hb_ hg_ hat_
                    obtain ⟨Ak2, ck2, rfl⟩ := own_slice ho_
                    have HQ := Aside0.mk (HR.out.push (n : Int) ho_ hg_ hat_)
                    obtain ⟨v1_, u1_⟩ := zcells (HR.out.b11' hg_) 1
                    clear HR ho_ hb_ hg_ hat_
                    have HR := HQ
                    clear HQ
                    refine hK.out (Act.put _ (some 102) _) _ v1_ (fun hHeld => ?_)
                    clear hK K_
                    refine pure_ (i := 6) (N := (some 103)) (v := ?_) (a' := ?_) (pfx 7 8) rfl rfl (any_of HT_.out (by kernel_rfl)) (fun _ _ _ h => h) (Or.inl ⟨by rfl, ?_⟩) ?_ ?_
                    rotate_left
                    · intro w'
                      go_simp
                      with_reducible rfl
                    rotate_left
                    · simp only [Act.put, List.setIfInBounds_toArray, List.set_cons_zero, List.set_cons_succ, i64_w, i32_w]
                      rfl
                    refine last_ (i := 7) (N := none) (pfx 8 8) rfl rfl (one_of HT_.out (by kernel_rfl)) (by decide) (fun K_ hK => ?_)
                    refine skip_ (w1 := w6.setCell ⟨t11, 1, none⟩ (.slice Ak2 (ks.length + 1) ck2)) (by rfl) rfl ?_ ?_
                    · go_simp
                      first | done | rfl
                    refine hK.out _ _ ?_
                    clear hK K_
                    refine done_ (done_of HT_.out (by kernel_rfl)) ?_
                    go_wp2
                    go_roundg j
                    case measure => go_light; omega
                    case rel =>
                      go_light
                      exact ⟨b2, p2, _, ks ++ [(n : Int)], ⟨by rw [← HKR.out]; exact HY.out.1, by have := HY.out.2.1; simp; omega, by have h_ := (nmP_le s (b + 1) true (nx_lt hny).2.1).1; rw [h5] at h_; have := HY.out.2.2; omega⟩, HR⟩
                  case neg =>
                    have hny : nx s b o 32 = false := by simpa using hny
                    obtain ⟨rfl, rfl, rfl⟩ : b = a2 ∧ o = o2 ∧ ks = ks2 := by have h_ := HY.out.1; rw [kidsR_end _ _ _ hny] at h_; injection h_ with h1 h_; injection h_ with h2 h3; exact ⟨h1, h2, h3⟩
                    have h3 := HH.out.2
                    have hl := HLn.out
                    go_upto_region 31 with (go_at_call 58; (with_reducible refine (next_is s r _ _ 32 _ _ hny HR.out.pl.rd HR.out.pl.le HS.out).mono ?_); rintro e_ w3 ⟨rfl, hb⟩; have HQ := Aside0.mk (HR.out.on hb); clear HR hb; have HR := HQ; clear HQ)
                    go_upto_region 33 with (first
                          | (go_at_call 56; (with_reducible refine (takes_nl_is s r _ _ _ _ _ h3 HR.out.pl.rd HR.out.pl.le HS.out).mono ?_); rintro e_ w2 ⟨rfl, hr_, hg_, hl_⟩; have HQ := Aside0.mk (HR.out.call hr_ hg_ hl_); clear hl_; clear HR hr_ hg_; have HR := HQ; clear HQ; obtain ⟨x2_, u2_⟩ := zcells HR.out.pl.b9 2; obtain ⟨v0_, _⟩ := zcells HR.out.b11 0; obtain ⟨v1_, _⟩ := zcells HR.out.b11 1)
                          | ((with_reducible refine gate_builtin (b := .append) (xs := #[.tmp 107, .tmp 109]) rfl ?_); at_builtin; refine print_append_cells (w0 := w) (W := w2) w.heap.size rfl (.tmp 107) (.tmp 109) 22 49 (.agg #[.int .u8 0, .slice none 0 0]) 2 32 rfl Tryd.underlying22 (by kernel_rfl) rfl (by decide) (by decide) nv l.length (bcells l K l.length) [.int .u8 0, .slice Ak ks.length ck] rfl rfl rfl (by intro u hu; simp at hu; rcases hu with hu | hu; (rw [hu]; rfl); (rw [hu]; rfl)) HR.out.pl.nd.row HR.out.pl.be HR.out.pl.be.size (by have := HX.out.1; have := HX.out.2.1; have := HM.out; omega) ?_; intro nv' w4 ho_ hb_ hg_ hat_; obtain ⟨An', cn', rfl⟩ := own_slice ho_; have HL := Aside0.mk (HR.out.node ho_ hg_); obtain ⟨x2_, u2_⟩ := zcells (HR.out.b9' hg_) 2; clear HR ho_ hb_ hg_ hat_ v0_ v1_))
                    go_wp2
                    go_roundg m
                    case measure => go_light; omega
                    case rel =>
                      go_light
                      exact ⟨x + 1, _, _, l ++ [⟨0, ks⟩], _, a3, o3, by simp [wx_], rfl, ⟨by have := HX.out.1; omega, by have := HX.out.2.1; simp; omega, bytes_snoc HX.out.2.2.1 (by first | exact ⟨by decide, by decide⟩ | (dsimp only; constructor <;> omega)), by rw [HX.out.2.2.2, lines_step hl]; simp⟩, HL⟩
end Go.Proofs.YtbnonnogkgbpiaaDoor.ParseT
end
