/- The machine side of WordsGets. -/
import Derived.Test.YtlghmadoogblcaaPile
import Derived.Test.YtlghmadoogblcaaPWx2
import Derived.Test.YtlghmadoogblcaaPBb
import Derived.Test.YtlghmadoogblcaaAlive
import Derived.Test.YtlghmadoogblcaaGetsPlain
namespace Go.Proofs.Ytlghmadoogblcaa.GetsWalk
open Go Go.RowKit Go.Proofs.YtlghmadoogblcaaW.PrintWords Go.Proofs.YtlghmadoogblcaaW.PrintLast Go.Proofs.YtlghmadoogblcaaW.PrintMore Go.Proofs.Ytlghmadoogblcaa.PW Go.Proofs.Ytlghmadoogblcaa.PB Go.Proofs.Ytlghmadoogblcaa.Book Go.Proofs.Ytlghmadoogblcaa.Lent Go.Proofs.Ytlghmadoogblcaa.Pile
set_option linter.unusedVariables false
set_option linter.unusedSimpArgs false
set_option maxHeartbeats 8000000 in
set_option maxRecDepth 100000 in
theorem core (k : Nat) (n i : Int) (on : Bool) (A : Option Addr) (c : Nat) (xs xz ys ys' : List Int) (m er m' er' : Int) (p q p' q' : Bool) (w : World) (hC : Kd.C (Kd.int .u64) w A xs.length xs) (hl : xs.length ≤ c) (hm : xs.length ≤ 17592186043904) (hk : 17592186043906 < k)
    (hal : vivariumlaw02_alive.f k = some true) (hxz : xs.map (fun v => Go.bits .xor .u64 v 6148914691236517205) = xz) (hyl : ys.length ≤ 2000000) (hyl' : ys'.length ≤ 2000000)
    (v1 : words_Valid.f n xs = some p) (v2 : vivariumref02_Valid.f k n xs = some p) (g1 : words_Get.f n xs i = some q) (g2 : vivariumref02_Get.f k n xs i = some q)
    (s1 : words_Set.f k n xs i on = some (m, ys, er)) (s2 : vivariumref02_Set.f k n xs i on = some (m, ys, er))
    (v3 : words_Valid.f n xz = some p') (v4 : vivariumref02_Valid.f k n xz = some p') (g3 : words_Get.f n xz i = some q') (g4 : vivariumref02_Get.f k n xz i = some q')
    (s3 : words_Set.f k n xz i on = some (m', ys', er')) (s4 : vivariumref02_Set.f k n xz i on = some (m', ys', er')) :
    Calls Try.prog 7 #[.agg #[.int .i64 n, .slice A xs.length c], .int .i64 i, .bool on] w fun e w' => e = .returned (.bool true) ∧ Below w.heap.size w w' := by
  have HC := Aside0.mk hC; have HL := Aside0.mk hl; have HM := Aside0.mk hm; have HK := Aside0.mk hk; have HA := Aside0.mk hal; have HXZ := Aside0.mk hxz; have HYl := Aside0.mk hyl; have HYl' := Aside0.mk hyl'
  have V1 := Aside0.mk v1; have V2 := Aside0.mk v2; have G1 := Aside0.mk g1; have G2 := Aside0.mk g2; have HS1 := Aside0.mk s1; have HS2 := Aside0.mk s2
  have V3 := Aside0.mk v3; have V4 := Aside0.mk v4; have G3 := Aside0.mk g3; have G4 := Aside0.mk g4; have HS3 := Aside0.mk s3; have HS4 := Aside0.mk s4
  have hlz : xz.length = xs.length := by rw [← hxz, List.length_map]
  have HLZ := Aside0.mk hlz
  have P := Aside0.mk (Pile0.start w)
  have E0 := At.mk (n := 0)
  have hu := Try.underlying31
  clear hC hl hm hk hal hxz hyl hyl' v1 v2 g1 g2 s1 s2 v3 v4 g3 g4 s3 s4 hlz
  go_enter Try.func7, Try.ntmps7
  go_wp2_with (first
    | (go_at_call 13; have E_ := E0; have P1 := (P.out.push [.int .i64 n, .slice A xs.length c] (w.heap.size) rfl); with_reducible refine (vivariumlaw02_alive.calls k true _ rfl HA.out).mono ?_; rintro er_ v1 ⟨rfl, hb⟩; have P2 := P1.on hb; clear hb; clear P P1 E0 E_; have P := Aside0.mk P2; clear P2; have E1 := At.mk (n := 1); have z_ := P.out.at_ (i := 0) rfl; have q_r := z_.1; have x_r0 := z_.2 0 _ rfl; have x_r1 := z_.2 1 _ rfl; clear z_)
    | (go_at_call 24; have E_ := E1; have P1 := P.out; with_reducible refine (Lent.lent n A c xs _ (Kd.C_below HC.out P1.be) HL.out HM.out).mono ?_; rintro er_ v2 ⟨g0, d0, rfl, hl, hb⟩; have P2 := P1.lend hb hl; clear hb hl; clear q_r x_r0 x_r1; clear P P1 E1 E_; have P := Aside0.mk P2; clear P2; have E2 := At.mk (n := 2); have z_ := P.out.at_ (i := 0) rfl; have q_r := z_.1; have x_r0 := z_.2 0 _ rfl; have x_r1 := z_.2 1 _ rfl; clear z_)
    | (go_at_call 25; have E_ := E2; have P1 := (Pile.make (P.out.push [.int .i64 n, .slice (some ⟨g0, 0, none⟩) xs.length d0] (v2.heap.size) rfl) (v2.heap.size + 1) (by simp)); with_reducible refine (vivariumref02_Set.calls k n A c xs i on m ys er _ (Kd.C_below HC.out P1.p0.be) HL.out HS2.out).mono ?_; rintro er_ v3 ⟨t_, rfl, hR, hb⟩; have P2 := P1.told hb hR; obtain ⟨A_0, c_0, rfl, _, _⟩ := Kd.R_reads hR; clear hb hR; clear q_r x_r0 x_r1; clear P P1 E2 E_; have P := Aside0.mk P2; clear P2; have E3 := At.mk (n := 3); have z_ := P.out.p0.at_ (i := 0) rfl; have q_r := z_.1; have x_r0 := z_.2 0 _ rfl; have x_r1 := z_.2 1 _ rfl; clear z_; have z_ := P.out.p0.at_ (i := 1) rfl; have q_x := z_.1; have x_x0 := z_.2 0 _ rfl; have x_x1 := z_.2 1 _ rfl; clear z_))
  have P2 := (P.out.push [.int .i64 m, .slice A_0 ys.length c_0] (v3.heap.size) rfl)
  clear P
  have P := Aside0.mk P2
  clear P2
  generalize v3.alloc _ = vb at P ⊢
  have z_ := P.out.p0.at_ (i := 0) rfl
  have q_r := z_.1
  have x_r0 := z_.2 0 _ rfl
  have x_r1 := z_.2 1 _ rfl
  clear z_
  have z_ := P.out.p0.at_ (i := 1) rfl
  have q_x := z_.1
  have x_x0 := z_.2 0 _ rfl
  have x_x1 := z_.2 1 _ rfl
  clear z_
  have z_ := P.out.p0.at_ (i := 2) rfl
  have q_want := z_.1
  have x_want0 := z_.2 0 _ rfl
  have x_want1 := z_.2 1 _ rfl
  clear z_
  refine start_ (n := 14) (S := fun w' => w'.cell? ⟨w.heap.size, 0, none⟩ = some (.int .i64 n) ∧ w'.cell? ⟨w.heap.size, 1, none⟩ = some (.slice A xs.length c) ∧ w'.cell? ⟨v2.heap.size, 0, none⟩ = some (.int .i64 n) ∧ w'.cell? ⟨v2.heap.size, 1, none⟩ = some (.slice (some ⟨g0, 0, none⟩) xs.length d0) ∧ w'.cell? ⟨v3.heap.size, 0, none⟩ = some (.int .i64 m) ∧ w'.cell? ⟨v3.heap.size, 1, none⟩ = some (.slice A_0 ys.length c_0)) (ds := []) #[false, false, false, false, false, false, false, false, false, false, false, false, false, false] (by kernel_rfl) rfl rfl ⟨x_r0, x_r1, x_x0, x_x1, x_want0, x_want1⟩ (fun hHeld => ?_)
  have P2 := P.out.on (below_drew (Below.refl vb.heap.size vb))
  clear P q_r x_r0 x_r1 q_x x_x0 x_x1 q_want x_want0 x_want1
  have P := Aside0.mk P2
  clear P2
  generalize vb.drew = v4 at P hHeld ⊢
  refine take_ (i := 0) (N := (some 33)) (v := ?_) (a' := ?_) #[true, false, false, false, false, false, false, false, false, false, false, false, false, false] rfl rfl (by kernel_rfl) (fun _ _ _ h => h) (Or.inl ⟨by rfl, ?_⟩) hHeld ?_ ?_
  rotate_left
  · rintro w' ⟨s0, s1, s2, s3, s4, s5⟩
    go_simp
    with_reducible rfl
  rotate_left
  · simp only [Act.put, List.setIfInBounds_toArray, List.set_cons_zero, List.set_cons_succ, i64_w, i32_w]
    rfl
  refine take_ (i := 2) (N := (some 35)) (v := ?_) (a' := ?_) #[true, false, true, false, false, false, false, false, false, false, false, false, false, false] rfl rfl (by kernel_rfl) (fun _ _ _ h => h) (Or.inl ⟨by rfl, ?_⟩) hHeld ?_ ?_
  rotate_left
  · rintro w' ⟨s0, s1, s2, s3, s4, s5⟩
    go_simp
    with_reducible rfl
  rotate_left
  · simp only [Act.put, List.setIfInBounds_toArray, List.set_cons_zero, List.set_cons_succ, i64_w, i32_w]
    rfl
  refine one_ (i := 1) (N := (some 34)) #[true, true, true, false, false, false, false, false, false, false, false, false, false, false] rfl rfl (by kernel_rfl) (by decide) (fun K hK => ?_)
  have P1 := P.out
  refine goes_ Try.func22 (by kernel_rfl) rfl #[.agg #[.int .i64 n, .slice (some ⟨g0, 0, none⟩) xs.length d0]] (by rfl) rfl rfl (by (try simp only [List.map_toArray, List.map_cons, List.map_nil]); first | done | rfl) ?_
  with_reducible refine (words_Valid.calls n (some ⟨g0, 0, none⟩) d0 xs p _ (P1.p0.C (j := 0) rfl) (P1.p0.cap (j := 0) rfl) V1.out).mono ?_
  rintro er_ v5 ⟨rfl, hb⟩
  refine ⟨_, rfl, ?_⟩
  refine hK.out _ _ ⟨pw_cell_below hb hHeld.1, pw_cell_below hb hHeld.2.1, pw_cell_below hb hHeld.2.2.1, pw_cell_below hb hHeld.2.2.2.1, pw_cell_below hb hHeld.2.2.2.2.1, pw_cell_below hb hHeld.2.2.2.2.2⟩ (fun hHeld => ?_)
  clear hK K
  have P2 := P1.on hb
  clear P P1 hb
  have P := Aside0.mk P2
  clear P2
  refine one_ (i := 3) (N := (some 36)) #[true, true, true, true, false, false, false, false, false, false, false, false, false, false] rfl rfl (by kernel_rfl) (by decide) (fun K hK => ?_)
  have P1 := P.out
  refine goes_ Try.func26 (by kernel_rfl) rfl #[.agg #[.int .i64 n, .slice A xs.length c]] (by rfl) rfl rfl (by (try simp only [List.map_toArray, List.map_cons, List.map_nil]); first | done | rfl) ?_
  with_reducible refine (vivariumref02_Valid.calls k n A c xs p _ (Kd.C_below HC.out P1.p0.be) HL.out V2.out).mono ?_
  rintro er_ v6 ⟨rfl, hb⟩
  refine ⟨_, rfl, ?_⟩
  refine hK.out _ _ ⟨pw_cell_below hb hHeld.1, pw_cell_below hb hHeld.2.1, pw_cell_below hb hHeld.2.2.1, pw_cell_below hb hHeld.2.2.2.1, pw_cell_below hb hHeld.2.2.2.2.1, pw_cell_below hb hHeld.2.2.2.2.2⟩ (fun hHeld => ?_)
  clear hK K
  have P2 := P1.on hb
  clear P P1 hb
  have P := Aside0.mk P2
  clear P2
  refine pure_ (i := 4) (N := (some 37)) (v := ?_) (a' := ?_) #[true, true, true, true, true, false, false, false, false, false, false, false, false, false] rfl rfl (by kernel_rfl) (fun _ _ _ h => h) (Or.inl ⟨by rfl, ?_⟩) ?_ ?_
  rotate_left
  · intro w'
    go_simp
    with_reducible rfl
  rotate_left
  · simp only [Act.put, List.setIfInBounds_toArray, List.set_cons_zero, List.set_cons_succ, i64_w, i32_w]
    rfl
  refine pure_ (i := 5) (N := (some 38)) (v := ?_) (a' := ?_) #[true, true, true, true, true, true, false, false, false, false, false, false, false, false] rfl rfl (by kernel_rfl) (fun _ _ _ h => h) (Or.inl ⟨by rfl, ?_⟩) ?_ ?_
  rotate_left
  · intro w'
    go_simp
    with_reducible rfl
  rotate_left
  · simp only [Act.put, List.setIfInBounds_toArray, List.set_cons_zero, List.set_cons_succ, i64_w, i32_w]
    rfl
  refine take_ (i := 6) (N := (some 39)) (v := ?_) (a' := ?_) #[true, true, true, true, true, true, true, false, false, false, false, false, false, false] rfl rfl (by kernel_rfl) (fun _ _ _ h => h) (Or.inl ⟨by rfl, ?_⟩) hHeld ?_ ?_
  rotate_left
  · rintro w' ⟨s0, s1, s2, s3, s4, s5⟩
    go_simp
    with_reducible rfl
  rotate_left
  · simp only [Act.put, List.setIfInBounds_toArray, List.set_cons_zero, List.set_cons_succ, i64_w, i32_w]
    rfl
  refine take_ (i := 9) (N := (some 42)) (v := ?_) (a' := ?_) #[true, true, true, true, true, true, true, false, false, true, false, false, false, false] rfl rfl (by kernel_rfl) (fun _ _ _ h => h) (Or.inl ⟨by rfl, ?_⟩) hHeld ?_ ?_
  rotate_left
  · rintro w' ⟨s0, s1, s2, s3, s4, s5⟩
    go_simp
    with_reducible rfl
  rotate_left
  · simp only [Act.put, List.setIfInBounds_toArray, List.set_cons_zero, List.set_cons_succ, i64_w, i32_w]
    rfl
  refine pure_ (i := 7) (N := (some 40)) (v := ?_) (a' := ?_) #[true, true, true, true, true, true, true, true, false, true, false, false, false, false] rfl rfl (by kernel_rfl) (fun _ _ _ h => h) (Or.inl ⟨by rfl, ?_⟩) ?_ ?_
  rotate_left
  · intro w'
    go_simp
    with_reducible rfl
  rotate_left
  · simp only [Act.put, List.setIfInBounds_toArray, List.set_cons_zero, List.set_cons_succ, i64_w, i32_w]
    rfl
  refine pure_ (i := 10) (N := (some 43)) (v := ?_) (a' := ?_) #[true, true, true, true, true, true, true, true, false, true, true, false, false, false] rfl rfl (by kernel_rfl) (fun _ _ _ h => h) (Or.inl ⟨by rfl, ?_⟩) ?_ ?_
  rotate_left
  · intro w'
    go_simp
    with_reducible rfl
  rotate_left
  · simp only [Act.put, List.setIfInBounds_toArray, List.set_cons_zero, List.set_cons_succ, i64_w, i32_w]
    rfl
  refine one_ (i := 8) (N := (some 41)) #[true, true, true, true, true, true, true, true, true, true, true, false, false, false] rfl rfl (by kernel_rfl) (by decide) (fun K hK => ?_)
  have P1 := P.out
  refine goes_ Try.func27 (by kernel_rfl) rfl #[.agg #[.int .i64 n, .slice (some ⟨g0, 0, none⟩) xs.length d0], .int .i64 i] (by rfl) rfl rfl (by (try simp only [List.map_toArray, List.map_cons, List.map_nil]); first | done | rfl) ?_
  with_reducible refine (words_Get.calls n (some ⟨g0, 0, none⟩) d0 xs i q _ (P1.p0.C (j := 0) rfl) (P1.p0.cap (j := 0) rfl) G1.out).mono ?_
  rintro er_ v7 ⟨rfl, hb⟩
  refine ⟨_, rfl, ?_⟩
  refine hK.out _ _ ⟨pw_cell_below hb hHeld.1, pw_cell_below hb hHeld.2.1, pw_cell_below hb hHeld.2.2.1, pw_cell_below hb hHeld.2.2.2.1, pw_cell_below hb hHeld.2.2.2.2.1, pw_cell_below hb hHeld.2.2.2.2.2⟩ (fun hHeld => ?_)
  clear hK K
  have P2 := P1.on hb
  clear P P1 hb
  have P := Aside0.mk P2
  clear P2
  refine one_ (i := 11) (N := (some 44)) #[true, true, true, true, true, true, true, true, true, true, true, true, false, false] rfl rfl (by kernel_rfl) (by decide) (fun K hK => ?_)
  have P1 := P.out
  refine goes_ Try.func28 (by kernel_rfl) rfl #[.agg #[.int .i64 n, .slice A xs.length c], .int .i64 i] (by rfl) rfl rfl (by (try simp only [List.map_toArray, List.map_cons, List.map_nil]); first | done | rfl) ?_
  with_reducible refine (vivariumref02_Get.calls k n A c xs i q _ (Kd.C_below HC.out P1.p0.be) HL.out G2.out).mono ?_
  rintro er_ v8 ⟨rfl, hb⟩
  refine ⟨_, rfl, ?_⟩
  refine hK.out _ _ ⟨pw_cell_below hb hHeld.1, pw_cell_below hb hHeld.2.1, pw_cell_below hb hHeld.2.2.1, pw_cell_below hb hHeld.2.2.2.1, pw_cell_below hb hHeld.2.2.2.2.1, pw_cell_below hb hHeld.2.2.2.2.2⟩ (fun hHeld => ?_)
  clear hK K
  have P2 := P1.on hb
  clear P P1 hb
  have P := Aside0.mk P2
  clear P2
  refine pure_ (i := 12) (N := (some 45)) (v := ?_) (a' := ?_) #[true, true, true, true, true, true, true, true, true, true, true, true, true, false] rfl rfl (by kernel_rfl) (fun _ _ _ h => h) (Or.inl ⟨by rfl, ?_⟩) ?_ ?_
  rotate_left
  · intro w'
    go_simp
    with_reducible rfl
  rotate_left
  · simp only [Act.put, List.setIfInBounds_toArray, List.set_cons_zero, List.set_cons_succ, i64_w, i32_w]
    rfl
  refine pure_ (i := 13) (N := (some 46)) (v := ?_) (a' := ?_) #[true, true, true, true, true, true, true, true, true, true, true, true, true, true] rfl rfl (by kernel_rfl) (fun _ _ _ h => h) (Or.inl ⟨by rfl, ?_⟩) ?_ ?_
  rotate_left
  · intro w'
    go_simp
    with_reducible rfl
  rotate_left
  · simp only [Act.put, List.setIfInBounds_toArray, List.set_cons_zero, List.set_cons_succ, i64_w, i32_w]
    rfl
  refine done_ (by kernel_rfl) ?_
  have E8 := At.mk (n := 8)
  clear hHeld
  have z_ := P.out.p0.at_ (i := 0) rfl
  have q_r := z_.1
  have x_r0 := z_.2 0 _ rfl
  have x_r1 := z_.2 1 _ rfl
  clear z_
  have z_ := P.out.p0.at_ (i := 1) rfl
  have q_x := z_.1
  have x_x0 := z_.2 0 _ rfl
  have x_x1 := z_.2 1 _ rfl
  clear z_
  have z_ := P.out.p0.at_ (i := 2) rfl
  have q_want := z_.1
  have x_want0 := z_.2 0 _ rfl
  have x_want1 := z_.2 1 _ rfl
  clear z_
  go_wp2_with (first
    | (go_at_call 29; have E_ := E8; have P1 := P.out; with_reducible refine (words_Set.calls k n (some ⟨g0, 0, none⟩) d0 xs i on m ys er _ (P1.p0.C (j := 0) rfl) (P1.p0.cap (j := 0) rfl) HS1.out).mono ?_; rintro er_ v9 ⟨t_, rfl, hR, hb⟩; have P2 := P1.told hb hR; obtain ⟨A_1, c_1, rfl, _, _⟩ := Kd.R_reads hR; clear hb hR; clear q_r x_r0 x_r1; clear q_x x_x0 x_x1; clear q_want x_want0 x_want1; clear P P1 E8 E_; have P := Aside0.mk P2; clear P2; have E9 := At.mk (n := 9); have z_ := P.out.p0.at_ (i := 0) rfl; have q_r := z_.1; have x_r0 := z_.2 0 _ rfl; have x_r1 := z_.2 1 _ rfl; clear z_; have z_ := P.out.p0.at_ (i := 1) rfl; have q_x := z_.1; have x_x0 := z_.2 0 _ rfl; have x_x1 := z_.2 1 _ rfl; clear z_; have z_ := P.out.p0.at_ (i := 2) rfl; have q_want := z_.1; have x_want0 := z_.2 0 _ rfl; have x_want1 := z_.2 1 _ rfl; clear z_)
    | (go_at_call 20; have E_ := E9; have P1 := (P.out.push [.int .i64 m, .slice A_1 ys.length c_1] (v9.heap.size) rfl); with_reducible refine (P1.adds k 1 0 m er A_1 A_0 c_1 c_0 ys rfl rfl rfl (by simp) HYl.out (by have := HYl.out; have := HK.out; omega)).mono ?_; rintro er_ v10 ⟨rfl, gv_, wv_, P2⟩; skip; clear q_r x_r0 x_r1; clear q_x x_x0 x_x1; clear q_want x_want0 x_want1; clear P P1 E9 E_; have P := Aside0.mk P2; clear P2; have E10 := At.mk (n := 10); have z_ := P.out.p0.at_ (i := 0) rfl; have q_r := z_.1; have x_r0 := z_.2 0 _ rfl; have x_r1 := z_.2 1 _ rfl; clear z_; have z_ := P.out.p0.at_ (i := 1) rfl; have q_x := z_.1; have x_x0 := z_.2 0 _ rfl; have x_x1 := z_.2 1 _ rfl; clear z_; have z_ := P.out.p0.at_ (i := 2) rfl; have q_want := z_.1; have x_want0 := z_.2 0 _ rfl; have x_want1 := z_.2 1 _ rfl; clear z_; have z_ := P.out.p0.at_ (i := 3) rfl; have q_s := z_.1; have x_s0 := z_.2 0 _ rfl; have x_s1 := z_.2 1 _ rfl; clear z_)
    | (go_at_call 29; have E_ := E10; have P1 := P.out; with_reducible refine (words_Set.calls k n (some ⟨g0, 0, none⟩) d0 xs i on m ys er _ (P1.p0.C (j := 0) rfl) (P1.p0.cap (j := 0) rfl) HS1.out).mono ?_; rintro er_ v11 ⟨t_, rfl, hR, hb⟩; have P2 := P1.told hb hR; obtain ⟨A_2, c_2, rfl, _, _⟩ := Kd.R_reads hR; clear hb hR; clear q_r x_r0 x_r1; clear q_x x_x0 x_x1; clear q_want x_want0 x_want1; clear q_s x_s0 x_s1; clear P P1 E10 E_; have P := Aside0.mk P2; clear P2; have E11 := At.mk (n := 11); have z_ := P.out.p0.at_ (i := 0) rfl; have q_r := z_.1; have x_r0 := z_.2 0 _ rfl; have x_r1 := z_.2 1 _ rfl; clear z_; have z_ := P.out.p0.at_ (i := 1) rfl; have q_x := z_.1; have x_x0 := z_.2 0 _ rfl; have x_x1 := z_.2 1 _ rfl; clear z_; have z_ := P.out.p0.at_ (i := 2) rfl; have q_want := z_.1; have x_want0 := z_.2 0 _ rfl; have x_want1 := z_.2 1 _ rfl; clear z_; have z_ := P.out.p0.at_ (i := 3) rfl; have q_s := z_.1; have x_s0 := z_.2 0 _ rfl; have x_s1 := z_.2 1 _ rfl; clear z_)
    | (go_at_call 20; have E_ := E11; have P1 := (P.out.push [.int .i64 m, .slice A_2 ys.length c_2] (v11.heap.size) rfl); with_reducible refine (P1.adds k 2 0 m er A_2 A_0 c_2 c_0 ys rfl rfl rfl (by simp) HYl.out (by have := HYl.out; have := HK.out; omega)).mono ?_; rintro er_ v12 ⟨rfl, gv_, wv_, P2⟩; skip; clear q_r x_r0 x_r1; clear q_x x_x0 x_x1; clear q_want x_want0 x_want1; clear q_s x_s0 x_s1; clear P P1 E11 E_; have P := Aside0.mk P2; clear P2; have E12 := At.mk (n := 12); have z_ := P.out.p0.at_ (i := 0) rfl; have q_r := z_.1; have x_r0 := z_.2 0 _ rfl; have x_r1 := z_.2 1 _ rfl; clear z_; have z_ := P.out.p0.at_ (i := 1) rfl; have q_x := z_.1; have x_x0 := z_.2 0 _ rfl; have x_x1 := z_.2 1 _ rfl; clear z_; have z_ := P.out.p0.at_ (i := 2) rfl; have q_want := z_.1; have x_want0 := z_.2 0 _ rfl; have x_want1 := z_.2 1 _ rfl; clear z_; have z_ := P.out.p0.at_ (i := 3) rfl; have q_s := z_.1; have x_s0 := z_.2 0 _ rfl; have x_s1 := z_.2 1 _ rfl; clear z_; have z_ := P.out.p0.at_ (i := 4) rfl; have q_t := z_.1; have x_t0 := z_.2 0 _ rfl; have x_t1 := z_.2 1 _ rfl; clear z_)
    | (go_at_call 30; have E_ := E12; have P1 := P.out; with_reducible refine (Lent.kept k n g0 d0 A c xs w.heap.size _ (P1.p0.lent 0 _ rfl) (Kd.C_below HC.out P1.p0.be) HL.out HM.out (same_self k _ _ (by have := HM.out; omega) (by have := HM.out; have := HK.out; omega))).mono ?_; rintro er_ v13 ⟨rfl, hb⟩; have P2 := P1.on hb; clear hb; clear q_r x_r0 x_r1; clear q_x x_x0 x_x1; clear q_want x_want0 x_want1; clear q_s x_s0 x_s1; clear q_t x_t0 x_t1; clear P P1 E12 E_; have P := Aside0.mk P2; clear P2; have E13 := At.mk (n := 13); have z_ := P.out.p0.at_ (i := 0) rfl; have q_r := z_.1; have x_r0 := z_.2 0 _ rfl; have x_r1 := z_.2 1 _ rfl; clear z_; have z_ := P.out.p0.at_ (i := 1) rfl; have q_x := z_.1; have x_x0 := z_.2 0 _ rfl; have x_x1 := z_.2 1 _ rfl; clear z_; have z_ := P.out.p0.at_ (i := 2) rfl; have q_want := z_.1; have x_want0 := z_.2 0 _ rfl; have x_want1 := z_.2 1 _ rfl; clear z_; have z_ := P.out.p0.at_ (i := 3) rfl; have q_s := z_.1; have x_s0 := z_.2 0 _ rfl; have x_s1 := z_.2 1 _ rfl; clear z_; have z_ := P.out.p0.at_ (i := 4) rfl; have q_t := z_.1; have x_t0 := z_.2 0 _ rfl; have x_t1 := z_.2 1 _ rfl; clear z_)
    | (go_at_call 31; have E_ := E13; have P1 := P.out; with_reducible refine (Lent.wipe n g0 d0 xs w.heap.size _ (P1.p0.lent 0 _ rfl) P1.p0.be.size HM.out).mono ?_; rintro er_ v14 ⟨rfl, hl, hg⟩; rw [HXZ.out] at hl; have P2 := P1.wiped (i := 0) rfl hg hl; clear hl hg; clear q_r x_r0 x_r1; clear q_x x_x0 x_x1; clear q_want x_want0 x_want1; clear q_s x_s0 x_s1; clear q_t x_t0 x_t1; clear P P1 E13 E_; have P := Aside0.mk P2; clear P2; have E14 := At.mk (n := 14); have z_ := P.out.p0.at_ (i := 0) rfl; have q_r := z_.1; have x_r0 := z_.2 0 _ rfl; have x_r1 := z_.2 1 _ rfl; clear z_; have z_ := P.out.p0.at_ (i := 1) rfl; have q_x := z_.1; have x_x0 := z_.2 0 _ rfl; have x_x1 := z_.2 1 _ rfl; clear z_; have z_ := P.out.p0.at_ (i := 2) rfl; have q_want := z_.1; have x_want0 := z_.2 0 _ rfl; have x_want1 := z_.2 1 _ rfl; clear z_; have z_ := P.out.p0.at_ (i := 3) rfl; have q_s := z_.1; have x_s0 := z_.2 0 _ rfl; have x_s1 := z_.2 1 _ rfl; clear z_; have z_ := P.out.p0.at_ (i := 4) rfl; have q_t := z_.1; have x_t0 := z_.2 0 _ rfl; have x_t1 := z_.2 1 _ rfl; clear z_)
    | (go_at_call 25; have E_ := E14; have P1 := P.out; have h_ := vivariumref02_Set.calls k n (some ⟨g0, 0, none⟩) d0 xz i on m' ys' er' _ (P1.p0.C (j := 0) rfl) (P1.p0.cap (j := 0) rfl) HS4.out; rw [HLZ.out] at h_; with_reducible refine h_.mono ?_; clear h_; rintro er_ v15 ⟨t_, rfl, hR, hb⟩; have P2 := P1.told hb hR; obtain ⟨A_3, c_3, rfl, _, _⟩ := Kd.R_reads hR; clear hb hR; clear q_r x_r0 x_r1; clear q_x x_x0 x_x1; clear q_want x_want0 x_want1; clear q_s x_s0 x_s1; clear q_t x_t0 x_t1; clear P P1 E14 E_; have P := Aside0.mk P2; clear P2; have E15 := At.mk (n := 15); have z_ := P.out.p0.at_ (i := 0) rfl; have q_r := z_.1; have x_r0 := z_.2 0 _ rfl; have x_r1 := z_.2 1 _ rfl; clear z_; have z_ := P.out.p0.at_ (i := 1) rfl; have q_x := z_.1; have x_x0 := z_.2 0 _ rfl; have x_x1 := z_.2 1 _ rfl; clear z_; have z_ := P.out.p0.at_ (i := 2) rfl; have q_want := z_.1; have x_want0 := z_.2 0 _ rfl; have x_want1 := z_.2 1 _ rfl; clear z_; have z_ := P.out.p0.at_ (i := 3) rfl; have q_s := z_.1; have x_s0 := z_.2 0 _ rfl; have x_s1 := z_.2 1 _ rfl; clear z_; have z_ := P.out.p0.at_ (i := 4) rfl; have q_t := z_.1; have x_t0 := z_.2 0 _ rfl; have x_t1 := z_.2 1 _ rfl; clear z_))
  have P2 := (P.out.push [.int .i64 m', .slice A_3 ys'.length c_3] (v15.heap.size) rfl)
  clear P
  have P := Aside0.mk P2
  clear P2
  generalize v15.alloc _ = vc at P ⊢
  have z_ := P.out.p0.at_ (i := 0) rfl
  have q_r := z_.1
  have x_r0 := z_.2 0 _ rfl
  have x_r1 := z_.2 1 _ rfl
  clear z_
  have z_ := P.out.p0.at_ (i := 1) rfl
  have q_x := z_.1
  have x_x0 := z_.2 0 _ rfl
  have x_x1 := z_.2 1 _ rfl
  clear z_
  have z_ := P.out.p0.at_ (i := 2) rfl
  have q_want := z_.1
  have x_want0 := z_.2 0 _ rfl
  have x_want1 := z_.2 1 _ rfl
  clear z_
  have z_ := P.out.p0.at_ (i := 3) rfl
  have q_s := z_.1
  have x_s0 := z_.2 0 _ rfl
  have x_s1 := z_.2 1 _ rfl
  clear z_
  have z_ := P.out.p0.at_ (i := 4) rfl
  have q_t := z_.1
  have x_t0 := z_.2 0 _ rfl
  have x_t1 := z_.2 1 _ rfl
  clear z_
  have z_ := P.out.p0.at_ (i := 5) rfl
  have q_other := z_.1
  have x_other0 := z_.2 0 _ rfl
  have x_other1 := z_.2 1 _ rfl
  clear z_
  refine start_ (n := 15) (S := fun w' => w'.cell? ⟨w.heap.size, 0, none⟩ = some (.int .i64 n) ∧ w'.cell? ⟨w.heap.size, 1, none⟩ = some (.slice A xs.length c) ∧ w'.cell? ⟨v2.heap.size, 0, none⟩ = some (.int .i64 n) ∧ w'.cell? ⟨v2.heap.size, 1, none⟩ = some (.slice (some ⟨g0, 0, none⟩) xs.length d0) ∧ w'.cell? ⟨v3.heap.size, 0, none⟩ = some (.int .i64 m) ∧ w'.cell? ⟨v3.heap.size, 1, none⟩ = some (.slice A_0 ys.length c_0) ∧ w'.cell? ⟨v9.heap.size, 0, none⟩ = some (.int .i64 m) ∧ w'.cell? ⟨v9.heap.size, 1, none⟩ = some (.slice A_1 ys.length c_1) ∧ w'.cell? ⟨v11.heap.size, 0, none⟩ = some (.int .i64 m) ∧ w'.cell? ⟨v11.heap.size, 1, none⟩ = some (.slice A_2 ys.length c_2) ∧ w'.cell? ⟨v15.heap.size, 0, none⟩ = some (.int .i64 m') ∧ w'.cell? ⟨v15.heap.size, 1, none⟩ = some (.slice A_3 ys'.length c_3)) (ds := []) #[false, false, false, false, false, false, false, false, false, false, false, false, false, false, false] (by kernel_rfl) rfl rfl ⟨x_r0, x_r1, x_x0, x_x1, x_want0, x_want1, x_s0, x_s1, x_t0, x_t1, x_other0, x_other1⟩ (fun hHeld => ?_)
  have P2 := P.out.on (below_drew (Below.refl vc.heap.size vc))
  clear P q_r x_r0 x_r1 q_x x_x0 x_x1 q_want x_want0 x_want1 q_s x_s0 x_s1 q_t x_t0 x_t1 q_other x_other0 x_other1
  have P := Aside0.mk P2
  clear P2
  generalize vc.drew = v16 at P hHeld ⊢
  refine take_ (i := 0) (N := (some 85)) (v := ?_) (a' := ?_) #[true, false, false, false, false, false, false, false, false, false, false, false, false, false, false] rfl rfl (by kernel_rfl) (fun _ _ _ h => h) (Or.inl ⟨by rfl, ?_⟩) hHeld ?_ ?_
  rotate_left
  · rintro w' ⟨s0, s1, s2, s3, s4, s5, s6, s7, s8, s9, s10, s11⟩
    go_simp
    with_reducible rfl
  rotate_left
  · simp only [Act.put, List.setIfInBounds_toArray, List.set_cons_zero, List.set_cons_succ, i64_w, i32_w]
    rfl
  refine take_ (i := 2) (N := (some 87)) (v := ?_) (a' := ?_) #[true, false, true, false, false, false, false, false, false, false, false, false, false, false, false] rfl rfl (by kernel_rfl) (fun _ _ _ h => h) (Or.inl ⟨by rfl, ?_⟩) hHeld ?_ ?_
  rotate_left
  · rintro w' ⟨s0, s1, s2, s3, s4, s5, s6, s7, s8, s9, s10, s11⟩
    go_simp
    with_reducible rfl
  rotate_left
  · simp only [Act.put, List.setIfInBounds_toArray, List.set_cons_zero, List.set_cons_succ, i64_w, i32_w]
    rfl
  refine one_ (i := 1) (N := (some 86)) #[true, true, true, false, false, false, false, false, false, false, false, false, false, false, false] rfl rfl (by kernel_rfl) (by decide) (fun K hK => ?_)
  have P1 := P.out
  refine goes_ Try.func22 (by kernel_rfl) rfl #[.agg #[.int .i64 n, .slice (some ⟨g0, 0, none⟩) xs.length d0]] (by rfl) rfl rfl (by (try simp only [List.map_toArray, List.map_cons, List.map_nil]); first | done | rfl) ?_
  have h_ := words_Valid.calls n (some ⟨g0, 0, none⟩) d0 xz p' _ (P1.p0.C (j := 0) rfl) (P1.p0.cap (j := 0) rfl) V3.out
  rw [HLZ.out] at h_
  with_reducible refine h_.mono ?_
  clear h_
  rintro er_ v17 ⟨rfl, hb⟩
  refine ⟨_, rfl, ?_⟩
  refine hK.out _ _ ⟨pw_cell_below hb hHeld.1, pw_cell_below hb hHeld.2.1, pw_cell_below hb hHeld.2.2.1, pw_cell_below hb hHeld.2.2.2.1, pw_cell_below hb hHeld.2.2.2.2.1, pw_cell_below hb hHeld.2.2.2.2.2.1, pw_cell_below hb hHeld.2.2.2.2.2.2.1, pw_cell_below hb hHeld.2.2.2.2.2.2.2.1, pw_cell_below hb hHeld.2.2.2.2.2.2.2.2.1, pw_cell_below hb hHeld.2.2.2.2.2.2.2.2.2.1, pw_cell_below hb hHeld.2.2.2.2.2.2.2.2.2.2.1, pw_cell_below hb hHeld.2.2.2.2.2.2.2.2.2.2.2⟩ (fun hHeld => ?_)
  clear hK K
  have P2 := P1.on hb
  clear P P1 hb
  have P := Aside0.mk P2
  clear P2
  refine one_ (i := 3) (N := (some 88)) #[true, true, true, true, false, false, false, false, false, false, false, false, false, false, false] rfl rfl (by kernel_rfl) (by decide) (fun K hK => ?_)
  have P1 := P.out
  refine goes_ Try.func26 (by kernel_rfl) rfl #[.agg #[.int .i64 n, .slice (some ⟨g0, 0, none⟩) xs.length d0]] (by rfl) rfl rfl (by (try simp only [List.map_toArray, List.map_cons, List.map_nil]); first | done | rfl) ?_
  have h_ := vivariumref02_Valid.calls k n (some ⟨g0, 0, none⟩) d0 xz p' _ (P1.p0.C (j := 0) rfl) (P1.p0.cap (j := 0) rfl) V4.out
  rw [HLZ.out] at h_
  with_reducible refine h_.mono ?_
  clear h_
  rintro er_ v18 ⟨rfl, hb⟩
  refine ⟨_, rfl, ?_⟩
  refine hK.out _ _ ⟨pw_cell_below hb hHeld.1, pw_cell_below hb hHeld.2.1, pw_cell_below hb hHeld.2.2.1, pw_cell_below hb hHeld.2.2.2.1, pw_cell_below hb hHeld.2.2.2.2.1, pw_cell_below hb hHeld.2.2.2.2.2.1, pw_cell_below hb hHeld.2.2.2.2.2.2.1, pw_cell_below hb hHeld.2.2.2.2.2.2.2.1, pw_cell_below hb hHeld.2.2.2.2.2.2.2.2.1, pw_cell_below hb hHeld.2.2.2.2.2.2.2.2.2.1, pw_cell_below hb hHeld.2.2.2.2.2.2.2.2.2.2.1, pw_cell_below hb hHeld.2.2.2.2.2.2.2.2.2.2.2⟩ (fun hHeld => ?_)
  clear hK K
  have P2 := P1.on hb
  clear P P1 hb
  have P := Aside0.mk P2
  clear P2
  refine pure_ (i := 4) (N := (some 89)) (v := ?_) (a' := ?_) #[true, true, true, true, true, false, false, false, false, false, false, false, false, false, false] rfl rfl (by kernel_rfl) (fun _ _ _ h => h) (Or.inl ⟨by rfl, ?_⟩) ?_ ?_
  rotate_left
  · intro w'
    go_simp
    with_reducible rfl
  rotate_left
  · simp only [Act.put, List.setIfInBounds_toArray, List.set_cons_zero, List.set_cons_succ, i64_w, i32_w]
    rfl
  refine pure_ (i := 5) (N := (some 90)) (v := ?_) (a' := ?_) #[true, true, true, true, true, true, false, false, false, false, false, false, false, false, false] rfl rfl (by kernel_rfl) (fun _ _ _ h => h) (Or.inl ⟨by rfl, ?_⟩) ?_ ?_
  rotate_left
  · intro w'
    go_simp
    with_reducible rfl
  rotate_left
  · simp only [Act.put, List.setIfInBounds_toArray, List.set_cons_zero, List.set_cons_succ, i64_w, i32_w]
    rfl
  refine take_ (i := 6) (N := (some 91)) (v := ?_) (a' := ?_) #[true, true, true, true, true, true, true, false, false, false, false, false, false, false, false] rfl rfl (by kernel_rfl) (fun _ _ _ h => h) (Or.inl ⟨by rfl, ?_⟩) hHeld ?_ ?_
  rotate_left
  · rintro w' ⟨s0, s1, s2, s3, s4, s5, s6, s7, s8, s9, s10, s11⟩
    go_simp
    with_reducible rfl
  rotate_left
  · simp only [Act.put, List.setIfInBounds_toArray, List.set_cons_zero, List.set_cons_succ, i64_w, i32_w]
    rfl
  refine take_ (i := 9) (N := (some 94)) (v := ?_) (a' := ?_) #[true, true, true, true, true, true, true, false, false, true, false, false, false, false, false] rfl rfl (by kernel_rfl) (fun _ _ _ h => h) (Or.inl ⟨by rfl, ?_⟩) hHeld ?_ ?_
  rotate_left
  · rintro w' ⟨s0, s1, s2, s3, s4, s5, s6, s7, s8, s9, s10, s11⟩
    go_simp
    with_reducible rfl
  rotate_left
  · simp only [Act.put, List.setIfInBounds_toArray, List.set_cons_zero, List.set_cons_succ, i64_w, i32_w]
    rfl
  refine pure_ (i := 7) (N := (some 92)) (v := ?_) (a' := ?_) #[true, true, true, true, true, true, true, true, false, true, false, false, false, false, false] rfl rfl (by kernel_rfl) (fun _ _ _ h => h) (Or.inl ⟨by rfl, ?_⟩) ?_ ?_
  rotate_left
  · intro w'
    go_simp
    with_reducible rfl
  rotate_left
  · simp only [Act.put, List.setIfInBounds_toArray, List.set_cons_zero, List.set_cons_succ, i64_w, i32_w]
    rfl
  refine pure_ (i := 10) (N := (some 95)) (v := ?_) (a' := ?_) #[true, true, true, true, true, true, true, true, false, true, true, false, false, false, false] rfl rfl (by kernel_rfl) (fun _ _ _ h => h) (Or.inl ⟨by rfl, ?_⟩) ?_ ?_
  rotate_left
  · intro w'
    go_simp
    with_reducible rfl
  rotate_left
  · simp only [Act.put, List.setIfInBounds_toArray, List.set_cons_zero, List.set_cons_succ, i64_w, i32_w]
    rfl
  refine one_ (i := 8) (N := (some 93)) #[true, true, true, true, true, true, true, true, true, true, true, false, false, false, false] rfl rfl (by kernel_rfl) (by decide) (fun K hK => ?_)
  have P1 := P.out
  refine goes_ Try.func27 (by kernel_rfl) rfl #[.agg #[.int .i64 n, .slice (some ⟨g0, 0, none⟩) xs.length d0], .int .i64 i] (by rfl) rfl rfl (by (try simp only [List.map_toArray, List.map_cons, List.map_nil]); first | done | rfl) ?_
  have h_ := words_Get.calls n (some ⟨g0, 0, none⟩) d0 xz i q' _ (P1.p0.C (j := 0) rfl) (P1.p0.cap (j := 0) rfl) G3.out
  rw [HLZ.out] at h_
  with_reducible refine h_.mono ?_
  clear h_
  rintro er_ v19 ⟨rfl, hb⟩
  refine ⟨_, rfl, ?_⟩
  refine hK.out _ _ ⟨pw_cell_below hb hHeld.1, pw_cell_below hb hHeld.2.1, pw_cell_below hb hHeld.2.2.1, pw_cell_below hb hHeld.2.2.2.1, pw_cell_below hb hHeld.2.2.2.2.1, pw_cell_below hb hHeld.2.2.2.2.2.1, pw_cell_below hb hHeld.2.2.2.2.2.2.1, pw_cell_below hb hHeld.2.2.2.2.2.2.2.1, pw_cell_below hb hHeld.2.2.2.2.2.2.2.2.1, pw_cell_below hb hHeld.2.2.2.2.2.2.2.2.2.1, pw_cell_below hb hHeld.2.2.2.2.2.2.2.2.2.2.1, pw_cell_below hb hHeld.2.2.2.2.2.2.2.2.2.2.2⟩ (fun hHeld => ?_)
  clear hK K
  have P2 := P1.on hb
  clear P P1 hb
  have P := Aside0.mk P2
  clear P2
  refine one_ (i := 11) (N := (some 96)) #[true, true, true, true, true, true, true, true, true, true, true, true, false, false, false] rfl rfl (by kernel_rfl) (by decide) (fun K hK => ?_)
  have P1 := P.out
  refine goes_ Try.func28 (by kernel_rfl) rfl #[.agg #[.int .i64 n, .slice (some ⟨g0, 0, none⟩) xs.length d0], .int .i64 i] (by rfl) rfl rfl (by (try simp only [List.map_toArray, List.map_cons, List.map_nil]); first | done | rfl) ?_
  have h_ := vivariumref02_Get.calls k n (some ⟨g0, 0, none⟩) d0 xz i q' _ (P1.p0.C (j := 0) rfl) (P1.p0.cap (j := 0) rfl) G4.out
  rw [HLZ.out] at h_
  with_reducible refine h_.mono ?_
  clear h_
  rintro er_ v20 ⟨rfl, hb⟩
  refine ⟨_, rfl, ?_⟩
  refine hK.out _ _ ⟨pw_cell_below hb hHeld.1, pw_cell_below hb hHeld.2.1, pw_cell_below hb hHeld.2.2.1, pw_cell_below hb hHeld.2.2.2.1, pw_cell_below hb hHeld.2.2.2.2.1, pw_cell_below hb hHeld.2.2.2.2.2.1, pw_cell_below hb hHeld.2.2.2.2.2.2.1, pw_cell_below hb hHeld.2.2.2.2.2.2.2.1, pw_cell_below hb hHeld.2.2.2.2.2.2.2.2.1, pw_cell_below hb hHeld.2.2.2.2.2.2.2.2.2.1, pw_cell_below hb hHeld.2.2.2.2.2.2.2.2.2.2.1, pw_cell_below hb hHeld.2.2.2.2.2.2.2.2.2.2.2⟩ (fun hHeld => ?_)
  clear hK K
  have P2 := P1.on hb
  clear P P1 hb
  have P := Aside0.mk P2
  clear P2
  refine pure_ (i := 12) (N := (some 97)) (v := ?_) (a' := ?_) #[true, true, true, true, true, true, true, true, true, true, true, true, true, false, false] rfl rfl (by kernel_rfl) (fun _ _ _ h => h) (Or.inl ⟨by rfl, ?_⟩) ?_ ?_
  rotate_left
  · intro w'
    go_simp
    with_reducible rfl
  rotate_left
  · simp only [Act.put, List.setIfInBounds_toArray, List.set_cons_zero, List.set_cons_succ, i64_w, i32_w]
    rfl
  refine pure_ (i := 13) (N := (some 98)) (v := ?_) (a' := ?_) #[true, true, true, true, true, true, true, true, true, true, true, true, true, true, false] rfl rfl (by kernel_rfl) (fun _ _ _ h => h) (Or.inl ⟨by rfl, ?_⟩) ?_ ?_
  rotate_left
  · intro w'
    go_simp
    with_reducible rfl
  rotate_left
  · simp only [Act.put, List.setIfInBounds_toArray, List.set_cons_zero, List.set_cons_succ, i64_w, i32_w]
    rfl
  refine pure_ (i := 14) (N := (some 18)) (v := ?_) (a' := ?_) #[true, true, true, true, true, true, true, true, true, true, true, true, true, true, true] rfl rfl (by kernel_rfl) (fun _ _ _ h => h) (Or.inl ⟨by rfl, ?_⟩) ?_ ?_
  rotate_left
  · intro w'
    go_simp
    with_reducible rfl
  rotate_left
  · simp only [Act.put, List.setIfInBounds_toArray, List.set_cons_zero, List.set_cons_succ, i64_w, i32_w]
    rfl
  refine done_ (by kernel_rfl) ?_
  have E20 := At.mk (n := 20)
  clear hHeld
  have z_ := P.out.p0.at_ (i := 0) rfl
  have q_r := z_.1
  have x_r0 := z_.2 0 _ rfl
  have x_r1 := z_.2 1 _ rfl
  clear z_
  have z_ := P.out.p0.at_ (i := 1) rfl
  have q_x := z_.1
  have x_x0 := z_.2 0 _ rfl
  have x_x1 := z_.2 1 _ rfl
  clear z_
  have z_ := P.out.p0.at_ (i := 2) rfl
  have q_want := z_.1
  have x_want0 := z_.2 0 _ rfl
  have x_want1 := z_.2 1 _ rfl
  clear z_
  have z_ := P.out.p0.at_ (i := 3) rfl
  have q_s := z_.1
  have x_s0 := z_.2 0 _ rfl
  have x_s1 := z_.2 1 _ rfl
  clear z_
  have z_ := P.out.p0.at_ (i := 4) rfl
  have q_t := z_.1
  have x_t0 := z_.2 0 _ rfl
  have x_t1 := z_.2 1 _ rfl
  clear z_
  have z_ := P.out.p0.at_ (i := 5) rfl
  have q_other := z_.1
  have x_other0 := z_.2 0 _ rfl
  have x_other1 := z_.2 1 _ rfl
  clear z_
  go_wp2_with (first
    | (go_at_call 29; have E_ := E20; have P1 := P.out; have h_ := words_Set.calls k n (some ⟨g0, 0, none⟩) d0 xz i on m' ys' er' _ (P1.p0.C (j := 0) rfl) (P1.p0.cap (j := 0) rfl) HS3.out; rw [HLZ.out] at h_; with_reducible refine h_.mono ?_; clear h_; rintro er_ v21 ⟨t_, rfl, hR, hb⟩; have P2 := P1.told hb hR; obtain ⟨A_4, c_4, rfl, _, _⟩ := Kd.R_reads hR; clear hb hR; clear q_r x_r0 x_r1; clear q_x x_x0 x_x1; clear q_want x_want0 x_want1; clear q_s x_s0 x_s1; clear q_t x_t0 x_t1; clear q_other x_other0 x_other1; clear P P1 E20 E_; have P := Aside0.mk P2; clear P2; have E21 := At.mk (n := 21); have z_ := P.out.p0.at_ (i := 0) rfl; have q_r := z_.1; have x_r0 := z_.2 0 _ rfl; have x_r1 := z_.2 1 _ rfl; clear z_; have z_ := P.out.p0.at_ (i := 1) rfl; have q_x := z_.1; have x_x0 := z_.2 0 _ rfl; have x_x1 := z_.2 1 _ rfl; clear z_; have z_ := P.out.p0.at_ (i := 2) rfl; have q_want := z_.1; have x_want0 := z_.2 0 _ rfl; have x_want1 := z_.2 1 _ rfl; clear z_; have z_ := P.out.p0.at_ (i := 3) rfl; have q_s := z_.1; have x_s0 := z_.2 0 _ rfl; have x_s1 := z_.2 1 _ rfl; clear z_; have z_ := P.out.p0.at_ (i := 4) rfl; have q_t := z_.1; have x_t0 := z_.2 0 _ rfl; have x_t1 := z_.2 1 _ rfl; clear z_; have z_ := P.out.p0.at_ (i := 5) rfl; have q_other := z_.1; have x_other0 := z_.2 0 _ rfl; have x_other1 := z_.2 1 _ rfl; clear z_)
    | (go_at_call 20; have E_ := E21; have P1 := (P.out.push [.int .i64 m', .slice A_4 ys'.length c_4] (v21.heap.size) rfl); with_reducible refine (P1.adds k 4 3 m' er' A_4 A_3 c_4 c_3 ys' rfl rfl rfl (by simp) HYl'.out (by have := HYl'.out; have := HK.out; omega)).mono ?_; rintro er_ v22 ⟨rfl, gv_, wv_, P2⟩; skip; clear q_r x_r0 x_r1; clear q_x x_x0 x_x1; clear q_want x_want0 x_want1; clear q_s x_s0 x_s1; clear q_t x_t0 x_t1; clear q_other x_other0 x_other1; clear P P1 E21 E_; have P := Aside0.mk P2; clear P2; have E22 := At.mk (n := 22); have z_ := P.out.p0.at_ (i := 0) rfl; have q_r := z_.1; have x_r0 := z_.2 0 _ rfl; have x_r1 := z_.2 1 _ rfl; clear z_; have z_ := P.out.p0.at_ (i := 1) rfl; have q_x := z_.1; have x_x0 := z_.2 0 _ rfl; have x_x1 := z_.2 1 _ rfl; clear z_; have z_ := P.out.p0.at_ (i := 2) rfl; have q_want := z_.1; have x_want0 := z_.2 0 _ rfl; have x_want1 := z_.2 1 _ rfl; clear z_; have z_ := P.out.p0.at_ (i := 3) rfl; have q_s := z_.1; have x_s0 := z_.2 0 _ rfl; have x_s1 := z_.2 1 _ rfl; clear z_; have z_ := P.out.p0.at_ (i := 4) rfl; have q_t := z_.1; have x_t0 := z_.2 0 _ rfl; have x_t1 := z_.2 1 _ rfl; clear z_; have z_ := P.out.p0.at_ (i := 5) rfl; have q_other := z_.1; have x_other0 := z_.2 0 _ rfl; have x_other1 := z_.2 1 _ rfl; clear z_; have z_ := P.out.p0.at_ (i := 6) rfl; have q_u := z_.1; have x_u0 := z_.2 0 _ rfl; have x_u1 := z_.2 1 _ rfl; clear z_)
    | (go_at_call 23; have E_ := E22; have P1 := P.out; with_reducible refine (P1.stands k (by decide) (by simp) (by have := HK.out; omega)).mono ?_; rintro er_ v23 ⟨rfl, hb⟩; clear q_r x_r0 x_r1; clear q_x x_x0 x_x1; clear q_want x_want0 x_want1; clear q_s x_s0 x_s1; clear q_t x_t0 x_t1; clear q_other x_other0 x_other1; clear q_u x_u0 x_u1; clear P P1 E22 E_; have HF := Aside0.mk hb; clear hb))
  go_ret
  exact ⟨rfl, HF.out⟩
theorem law (n i : Int) (on : Bool) (A : Option Addr) (c : Nat) (xs : List Int) (w : World) (hC : Kd.C (Kd.int .u64) w A xs.length xs) (hl : xs.length ≤ c) (hm : xs.length ≤ 17592186043904) (hu : RefPlain.U64 xs) :
    Calls Try.prog 7 #[.agg #[.int .i64 n, .slice A xs.length c], .int .i64 i, .bool on] w fun e w' => e = .returned (.bool true) ∧ Below w.heap.size w w' := by
  obtain ⟨k, hk⟩ : ∃ k, k = 17592186043908 := ⟨_, rfl⟩
  have hz := RefPlain.u64_wiped xs
  obtain ⟨p, v1, v2⟩ := RefPlain.valid_agree n xs hu k (by omega)
  obtain ⟨q, g1, g2⟩ := RefPlain.get_agree n xs hu i k (by omega)
  obtain ⟨m, ys, er, s1, s2, hy⟩ := RefPlain.set_agree n xs hu i on k (by omega)
  obtain ⟨p', v3, v4⟩ := RefPlain.valid_agree n _ hz k (by omega)
  obtain ⟨q', g3, g4⟩ := RefPlain.get_agree n _ hz i k (by omega)
  obtain ⟨m', ys', er', s3, s4, hy'⟩ := RefPlain.set_agree n _ hz i on k (by omega)
  exact core k n i on A c xs _ ys ys' m er m' er' p q p' q' w hC hl hm (by omega) (at_rounds (g := fun k => vivariumlaw02_alive.f k) (fun k => vivariumlaw02_alive.mono k) (by omega) Alive.alive_true) rfl hy hy' v1 v2 g1 g2 s1 s2 v3 v4 g3 g4 s3 s4
end Go.Proofs.Ytlghmadoogblcaa.GetsWalk
