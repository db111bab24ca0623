/- The book of the statements of layer 2: where all answers are what they must be, it stands. -/
import Derived.Test.YtlghmadoogblcaaStack
import Derived.Deep.LoopGhost
import Derived.Deep.Light
import Derived.Deep.CutBlock
import Derived.Deep.DeepCutAuto
namespace Go.Proofs.Ytlghmadoogblcaa.Book
open Go Go.RowKit Go.Proofs.YtlghmadoogblcaaW.PrintWords Go.Proofs.YtlghmadoogblcaaW.PrintLast Go.Proofs.YtlghmadoogblcaaW.PrintMore Go.Proofs.Ytlghmadoogblcaa.PS Go.Proofs.Ytlghmadoogblcaa.Bx
set_option linter.unusedVariables false
set_option linter.unusedSimpArgs false
theorem own_C {w : World} {base : Nat} {v : Value} {xs : List Int} (h : w.ownsRow base 22 1 v xs.length (nums .u64 xs)) : ∃ A c, v = .slice A xs.length c ∧ xs.length ≤ c ∧ Kd.C (Kd.int .u64) w A xs.length xs :=
  Kd.R_reads (Kd.R_of_own (h1 := fun _ => rfl) (ok := fun _ => True) h (fun _ _ => trivial))
set_option maxHeartbeats 4000000 in
set_option maxRecDepth 100000 in
theorem stands (k : Nat) (w0 w : World) (b : Nat) (gv wv : Value) (Z : List Ans) (hB : Stack w0 w b gv wv Z) (hS : ∀ (j : Nat) z, Z[j]? = some z → vivariumref02_Same.f k z.n z.xs z.n z.xs = some true) (hZ : Z.length ≤ 1000) (hZl : ∀ (j : Nat) z, Z[j]? = some z → z.xs.length ≤ 2000000) :
    Calls Try.prog 23 #[.pointer (some ⟨b, 0, none⟩)] w fun e w' => e = .returned (.bool true) ∧ Below w0.heap.size w0 w' := by
  have HB := Aside0.mk hB; have HSS := Aside0.mk hS; have HZ := Aside0.mk hZ; have HZl := Aside0.mk hZl
  have hu := Try.underlying31
  obtain ⟨Ag, cg, rfl, hAg⟩ := raw_addr hB.book.rg
  obtain ⟨Ah, ch, rfl, hAh⟩ := raw_addr hB.book.rh
  have lg : (gots Z).length = Z.length := by simp [gots]
  have lh : (wants Z).length = Z.length := by simp [wants]
  rw [lg] at HB hAg
  rw [lh] at HB hAh
  have HAg := Aside0.mk hAg; have HAh := Aside0.mk hAh
  have HV : Aside0 (∀ (j : Nat) z, Z[j]? = some z → ∃ A c, z.v = .slice A z.xs.length c ∧ (0 < z.xs.length → ∃ g, A = some ⟨g, 0, none⟩)) := ⟨fun j z hz => by
    obtain ⟨A, c, e_⟩ := own_slice (hB.own j z hz)
    refine ⟨A, c, e_, fun h0 => ?_⟩
    obtain ⟨g, cap, e2_, _⟩ := (hB.own j z hz).form h0
    rw [e_] at e2_
    injection e2_ with e2_
    exact ⟨g, e2_⟩⟩
  clear hB hS hZ hZl hAg hAh lg lh
  have y2 : w.cell? ⟨b, 2, none⟩ = some (.bool false) := (blk_cell HB.out.book.hb 2).trans rfl
  go_enter Try.func23, Try.ntmps23
  go_upto_block 0 with fail
  clear y2
  go_cut [3, 4] (fun s3 s4 wx => Aside0 (Stack w0 wx b (.slice Ag Z.length cg) (.slice Ah Z.length ch) Z))
  case first =>
    go_wp2_with fail
    go_loopg [3, 4] Z.length (fun g s3 s4 wr => ∃ x : Int, s3 = .int .i64 x ∧ Aside0 (0 ≤ x ∧ (g : Int) = Z.length - x) ∧ Aside0 (Stack w0 wr b (.slice Ag Z.length cg) (.slice Ah Z.length ch) Z))
    case atStart => exact ⟨0, rfl, ⟨by omega, by omega⟩, HB⟩
    case round =>
      obtain ⟨x, rfl, HX, HT⟩ := hrel
      have b0_ : wr.cell? ⟨b, 0, none⟩ = some (.slice Ag Z.length cg) := (blk_cell HT.out.book.hb 0).trans rfl
      have b1_ : wr.cell? ⟨b, 1, none⟩ = some (.slice Ah Z.length ch) := (blk_cell HT.out.book.hb 1).trans rfl
      have b2_ : wr.cell? ⟨b, 2, none⟩ = some (.bool false) := (blk_cell HT.out.book.hb 2).trans rfl
      by_cases q : x < (Z.length : Int)
      · have p : 0 ≤ x := HX.out.1
        obtain ⟨ad, rfl⟩ := HAg.out (by omega)
        obtain ⟨ah, rfl⟩ := HAh.out (by omega)
        obtain ⟨z, hz⟩ := ans_get p q
        have Hz := Aside0.mk hz
        obtain ⟨A, c, hv, hl, hC⟩ := own_C (HT.out.own _ z hz)
        obtain ⟨A', c', hu', hl2, hC2⟩ := own_C (HT.out.ref _ z hz)
        obtain ⟨g0_, g1_⟩ := raw_at HT.out.book.rg p q (gots_get hz)
        obtain ⟨h0_, h1_⟩ := raw_at HT.out.book.rh p q (wants_get hz)
        rw [hv] at g1_
        rw [hu'] at h1_
        have HC := Aside0.mk hC; have HC2 := Aside0.mk hC2; have HL := Aside0.mk hl; have HL2 := Aside0.mk hl2; have HS := Aside0.mk (HSS.out _ z hz)
        clear hC hC2 hl hl2 hz hv hu'
        have w1_ : wrap64 (x + 1) = x + 1 := by have := HZ.out; unfold wrap64; omega
        go_upto_region 6 with fail
        refine start_ (n := 16) (S := fun w' => w'.cell? ⟨b, 0, none⟩ = some (.slice (some ad) Z.length cg) ∧ w'.cell? ⟨b, 1, none⟩ = some (.slice (some ah) Z.length ch) ∧ w'.cell? (ad.add (x.toNat * 2)) = some (.int .i64 z.n) ∧ w'.cell? ⟨(ad.add (x.toNat * 2)).block, (ad.add (x.toNat * 2)).off + 1, none⟩ = some (.slice A z.xs.length c) ∧ w'.cell? (ah.add (x.toNat * 2)) = some (.int .i64 z.n) ∧ w'.cell? ⟨(ah.add (x.toNat * 2)).block, (ah.add (x.toNat * 2)).off + 1, none⟩ = some (.slice A' z.xs.length c')) (ds := []) #[false, false, false, false, false, false, false, false, false, false, false, false, false, false, false, false] (by kernel_rfl) rfl rfl ⟨b0_, b1_, g0_, g1_, h0_, h1_⟩ (fun hHeld => ?_)
        have HDr := Aside0.mk (below_drew (Below.refl wr.heap.size wr))
        clear b0_ b1_ b2_ g0_ g1_ h0_ h1_
        generalize wr.drew = wx at HDr hHeld ⊢
        refine pure_ (i := 0) (N := (some 27)) (v := ?_) (a' := ?_) #[true, false, false, false, false, false, false, false, false, false, false, false, false, false, false, false] rfl rfl (by kernel_rfl) (fun _ _ _ h => h) (Or.inl ⟨by rfl, ?_⟩) ?_ ?_
        rotate_left
        · intro w'
          go_simp
          with_reducible rfl
        rotate_left
        · simp only [Act.put, List.setIfInBounds_toArray, List.set_cons_zero, List.set_cons_succ, i64_w, i32_w]
          rfl
        refine pure_ (i := 1) (N := (some 28)) (v := ?_) (a' := ?_) #[true, true, false, false, false, false, false, false, false, false, false, false, false, false, false, false] rfl rfl (by kernel_rfl) (fun _ _ _ h => h) (Or.inl ⟨by rfl, ?_⟩) ?_ ?_
        rotate_left
        · intro w'
          go_simp
          with_reducible rfl
        rotate_left
        · simp only [Act.put, List.setIfInBounds_toArray, List.set_cons_zero, List.set_cons_succ, i64_w, i32_w]
          rfl
        refine pure_ (i := 2) (N := (some 29)) (v := ?_) (a' := ?_) #[true, true, true, false, false, false, false, false, false, false, false, false, false, false, false, false] rfl rfl (by kernel_rfl) (fun _ _ _ h => h) (Or.inl ⟨by rfl, ?_⟩) ?_ ?_
        rotate_left
        · intro w'
          go_simp
          with_reducible rfl
        rotate_left
        · simp only [Act.put, List.setIfInBounds_toArray, List.set_cons_zero, List.set_cons_succ, i64_w, i32_w]
          rfl
        refine take_ (i := 3) (N := (some 30)) (v := ?_) (a' := ?_) #[true, true, true, true, false, false, false, false, false, false, false, false, false, false, false, false] rfl rfl (by kernel_rfl) (fun _ _ _ h => h) (Or.inl ⟨by rfl, ?_⟩) hHeld ?_ ?_
        rotate_left
        · rintro w' ⟨s0, s1, s2, s3, s4, s5⟩
          go_simp
          with_reducible rfl
        rotate_left
        · simp only [Act.put, List.setIfInBounds_toArray, List.set_cons_zero, List.set_cons_succ, i64_w, i32_w]
          rfl
        refine pure_ (i := 4) (N := (some 31)) (v := ?_) (a' := ?_) #[true, true, true, true, true, false, false, false, false, false, false, false, false, false, false, false] rfl rfl (by kernel_rfl) (fun _ _ _ h => h) (Or.inl ⟨by rfl, ?_⟩) ?_ ?_
        rotate_left
        · intro w'
          go_simp
          with_reducible rfl
        rotate_left
        · simp only [Act.put, List.setIfInBounds_toArray, List.set_cons_zero, List.set_cons_succ, i64_w, i32_w]
          rfl
        refine pure_ (i := 5) (N := (some 32)) (v := ?_) (a' := ?_) #[true, true, true, true, true, true, false, false, false, false, false, false, false, false, false, false] rfl rfl (by kernel_rfl) (fun _ _ _ h => h) (Or.inl ⟨by rfl, ?_⟩) ?_ ?_
        rotate_left
        · intro w'
          go_simp
          with_reducible rfl
        rotate_left
        · simp only [Act.put, List.setIfInBounds_toArray, List.set_cons_zero, List.set_cons_succ, i64_w, i32_w]
          rfl
        refine take_ (i := 6) (N := (some 33)) (v := ?_) (a' := ?_) #[true, true, true, true, true, true, true, false, false, false, false, false, false, false, false, false] rfl rfl (by kernel_rfl) (fun _ _ _ h => h) (Or.inl ⟨by rfl, ?_⟩) hHeld ?_ ?_
        rotate_left
        · rintro w' ⟨s0, s1, s2, s3, s4, s5⟩
          go_simp
          with_reducible rfl
        rotate_left
        · simp only [Act.put, List.setIfInBounds_toArray, List.set_cons_zero, List.set_cons_succ, i64_w, i32_w]
          rfl
        refine pure_ (i := 7) (N := (some 34)) (v := ?_) (a' := ?_) #[true, true, true, true, true, true, true, true, false, false, false, false, false, false, false, false] rfl rfl (by kernel_rfl) (fun _ _ _ h => h) (Or.inl ⟨by rfl, ?_⟩) ?_ ?_
        rotate_left
        · intro w'
          go_simp
          with_reducible rfl
        rotate_left
        · simp only [Act.put, List.setIfInBounds_toArray, List.set_cons_zero, List.set_cons_succ, i64_w, i32_w]
          rfl
        refine pure_ (i := 8) (N := (some 35)) (v := ?_) (a' := ?_) #[true, true, true, true, true, true, true, true, true, false, false, false, false, false, false, false] rfl rfl (by kernel_rfl) (fun _ _ _ h => h) (Or.inl ⟨by rfl, ?_⟩) ?_ ?_
        rotate_left
        · intro w'
          go_simp
          with_reducible rfl
        rotate_left
        · simp only [Act.put, List.setIfInBounds_toArray, List.set_cons_zero, List.set_cons_succ, i64_w, i32_w]
          rfl
        refine pure_ (i := 9) (N := (some 36)) (v := ?_) (a' := ?_) #[true, true, true, true, true, true, true, true, true, true, false, false, false, false, false, false] rfl rfl (by kernel_rfl) (fun _ _ _ h => h) (Or.inl ⟨by rfl, ?_⟩) ?_ ?_
        rotate_left
        · intro w'
          go_simp
          with_reducible rfl
        rotate_left
        · simp only [Act.put, List.setIfInBounds_toArray, List.set_cons_zero, List.set_cons_succ, i64_w, i32_w]
          rfl
        refine take_ (i := 10) (N := (some 37)) (v := ?_) (a' := ?_) #[true, true, true, true, true, true, true, true, true, true, true, false, false, false, false, false] rfl rfl (by kernel_rfl) (fun _ _ _ h => h) (Or.inl ⟨by rfl, ?_⟩) hHeld ?_ ?_
        rotate_left
        · rintro w' ⟨s0, s1, s2, s3, s4, s5⟩
          go_simp
          with_reducible rfl
        rotate_left
        · simp only [Act.put, List.setIfInBounds_toArray, List.set_cons_zero, List.set_cons_succ, i64_w, i32_w]
          rfl
        refine pure_ (i := 11) (N := (some 38)) (v := ?_) (a' := ?_) #[true, true, true, true, true, true, true, true, true, true, true, true, false, false, false, false] rfl rfl (by kernel_rfl) (fun _ _ _ h => h) (Or.inl ⟨by rfl, ?_⟩) ?_ ?_
        rotate_left
        · intro w'
          go_simp
          with_reducible rfl
        rotate_left
        · simp only [Act.put, List.setIfInBounds_toArray, List.set_cons_zero, List.set_cons_succ, i64_w, i32_w]
          rfl
        refine pure_ (i := 12) (N := (some 39)) (v := ?_) (a' := ?_) #[true, true, true, true, true, true, true, true, true, true, true, true, true, false, false, false] rfl rfl (by kernel_rfl) (fun _ _ _ h => h) (Or.inl ⟨by rfl, ?_⟩) ?_ ?_
        rotate_left
        · intro w'
          go_simp
          with_reducible rfl
        rotate_left
        · simp only [Act.put, List.setIfInBounds_toArray, List.set_cons_zero, List.set_cons_succ, i64_w, i32_w]
          rfl
        refine take_ (i := 13) (N := (some 40)) (v := ?_) (a' := ?_) #[true, true, true, true, true, true, true, true, true, true, true, true, true, true, false, false] rfl rfl (by kernel_rfl) (fun _ _ _ h => h) (Or.inl ⟨by rfl, ?_⟩) hHeld ?_ ?_
        rotate_left
        · rintro w' ⟨s0, s1, s2, s3, s4, s5⟩
          go_simp
          with_reducible rfl
        rotate_left
        · simp only [Act.put, List.setIfInBounds_toArray, List.set_cons_zero, List.set_cons_succ, i64_w, i32_w]
          rfl
        refine one_ (i := 14) (N := (some 41)) #[true, true, true, true, true, true, true, true, true, true, true, true, true, true, true, false] rfl rfl (by kernel_rfl) (by decide) (fun K hK => ?_)
        refine goes_ Try.func49 (by kernel_rfl) rfl #[.agg #[.int .i64 z.n, .slice A z.xs.length c], .agg #[.int .i64 z.n, .slice A' z.xs.length c']] (by rfl) rfl rfl (by (try simp only [List.map_toArray, List.map_cons, List.map_nil]); first | done | rfl) ?_
        with_reducible refine (vivariumref02_Same.calls k z.n A c z.xs z.n A' c' z.xs true _ (Kd.C_below HC.out HDr.out) HL.out (Kd.C_below HC2.out HDr.out) HL2.out HS.out).mono ?_
        rintro en_ w' ⟨rfl, hb⟩
        refine ⟨_, rfl, ?_⟩
        refine hK.out _ _ ⟨pw_cell_below hb hHeld.1, pw_cell_below hb hHeld.2.1, pw_cell_below hb hHeld.2.2.1, pw_cell_below hb hHeld.2.2.2.1, pw_cell_below hb hHeld.2.2.2.2.1, pw_cell_below hb hHeld.2.2.2.2.2⟩ (fun hHeld => ?_)
        clear hK K
        refine pure_ (i := 15) (N := (some 4)) (v := ?_) (a' := ?_) #[true, true, true, true, true, true, true, true, true, true, true, true, true, true, true, true] rfl rfl (by kernel_rfl) (fun _ _ _ h => h) (Or.inl ⟨by rfl, ?_⟩) ?_ ?_
        rotate_left
        · intro w'
          go_simp
          with_reducible rfl
        rotate_left
        · simp only [Act.put, List.setIfInBounds_toArray, List.set_cons_zero, List.set_cons_succ, i64_w, i32_w]
          rfl
        refine done_ (by kernel_rfl) ?_
        go_wp2_with fail
        go_roundg (Z.length - (x + 1).toNat)
        case measure => go_light; have := HX.out; omega
        case rel => go_light; exact ⟨x + 1, by simp [w1_], ⟨by omega, by have := HX.out; omega⟩, ⟨HT.out.on (below_then HDr.out HDr.out.size hb)⟩⟩
      · go_wp2_with fail
        go_meet
        go_light
        exact HT
  case rest =>
    have HM := Aside0.mk (Marks.start hcut.out)
    clear hcut HB
    go_upto_block 2 with fail
    go_cut [5, 6, 7] (fun s5 s6 s7 wx => Aside0 (Marks w0 wx b (.slice Ag Z.length cg) (.slice Ah Z.length ch) Z Z.length 0))
    case first =>
      go_wp2_with fail
      go_loopg [5] Z.length (fun g s5 wr => ∃ x : Int, s5 = .int .i64 x ∧ Aside0 (0 ≤ x ∧ (g : Int) = Z.length - x) ∧ Aside0 (Marks w0 wr b (.slice Ag Z.length cg) (.slice Ah Z.length ch) Z x.toNat 0))
      case atStart => exact ⟨0, rfl, ⟨by omega, by omega⟩, HM⟩
      case round =>
        obtain ⟨x, rfl, HX, HT⟩ := hrel
        clear HM
        have b0_ : wr.cell? ⟨b, 0, none⟩ = some (.slice Ag Z.length cg) := (blk_cell HT.out.base.hb 0).trans rfl
        by_cases q : x < (Z.length : Int)
        · have p : 0 ≤ x := HX.out.1
          obtain ⟨ad, rfl⟩ := HAg.out (by omega)
          obtain ⟨z, hz⟩ := ans_get p q
          have Hz := Aside0.mk hz
          obtain ⟨A, c, hv⟩ := own_slice (HT.out.own _ z hz)
          obtain ⟨g0_, g1_⟩ := raw_at HT.out.base.rg p q (gots_get hz)
          rw [hv] at g1_
          have Hv := Aside0.mk hv
          clear hz hv
          have w1_ : wrap64 (x + 1) = x + 1 := by have := HZ.out; unfold wrap64; omega
          go_wp2_with fail
          clear b0_ g0_ g1_
          go_loopg [7] z.xs.length (fun g2 s7 wi => ∃ y : Int, s7 = .int .i64 y ∧ Aside0 (0 ≤ y ∧ (g2 : Int) = z.xs.length - y) ∧ Aside0 (Marks w0 wi b (.slice (some ad) Z.length cg) (.slice Ah Z.length ch) Z x.toNat y.toNat))
          case atStart => exact ⟨0, rfl, ⟨by omega, by omega⟩, HT⟩
          case round =>
            obtain ⟨y, rfl, HY, HI⟩ := hrel
            clear HT
            by_cases q2 : y < (z.xs.length : Int)
            · have p2 : 0 ≤ y := HY.out.1
              have hA : ∃ gb, A = some ⟨gb, 0, none⟩ := by
                obtain ⟨gb, cap, e_, _⟩ := (HI.out.own _ z Hz.out).form (by omega)
                rw [Hv.out] at e_
                injection e_ with e_
                exact ⟨gb, e_⟩
              obtain ⟨gb, rfl⟩ := hA
              have ho := HI.out.own _ z Hz.out
              rw [Hv.out] at ho
              obtain ⟨c_, f_⟩ := own_at ho y p2 q2
              clear ho
              have w2_ : wrap64 (y + 1) = y + 1 := by have := HZl.out _ z Hz.out; unfold wrap64; omega
              have w3_ : wrap64 (100 + x) = 100 + x := by have := HZ.out; unfold wrap64; omega
              have w4_ : IntKind.u64.wrap (100 + x) = 100 + x := by have := HZ.out; unfold IntKind.wrap; simp [IntKind.signed, IntKind.bits]; omega
              go_wp2_with fail
              go_roundg (z.xs.length - (y + 1).toNat)
              case measure => go_light; have := HY.out; omega
              case rel => go_light; exact ⟨y + 1, by simp [w2_], ⟨by omega, by have := HY.out; omega⟩, ⟨by have h_ := HI.out.store Hz.out Hv.out (by omega : ((x.toNat : Nat) : Int) = x) p2 q2; rwa [show (y + 1).toNat = y.toNat + 1 by omega]⟩⟩
            · go_wp2_with fail
              go_roundg (Z.length - (x + 1).toNat)
              case measure => go_light; have := HX.out; omega
              case rel => go_light; exact ⟨x + 1, by simp [w1_], ⟨by omega, by have := HX.out; omega⟩, ⟨by have h_ := HI.out.next Hz.out (by have := HY.out; omega); rwa [show (x + 1).toNat = x.toNat + 1 by omega]⟩⟩
        · go_wp2_with fail
          go_meet
          go_light
          exact ⟨by have h_ := HT.out; have := HX.out; rwa [show x.toNat = Z.length by omega] at h_⟩
    case rest =>
      have HM := Aside0.mk (Grow.start hcut.out)
      clear hcut
      go_upto_block 6 with fail
      go_cut [8, 9, 10, 11] (fun s8 s9 s10 s11 wx => ∃ M : List Value, Aside0 (M.length = Z.length) ∧ Aside0 (Grow w0 wx b (.slice Ag Z.length cg) (.slice Ah Z.length ch) Z s8 M))
      case first =>
        go_wp2_with fail
        go_loopg [8, 9] Z.length (fun g s8 s9 wr => ∃ (x : Int) (M : List Value), s9 = .int .i64 x ∧ Aside0 (0 ≤ x ∧ (g : Int) = Z.length - x ∧ (M.length : Int) = x) ∧ Aside0 (Grow w0 wr b (.slice Ag Z.length cg) (.slice Ah Z.length ch) Z s8 M))
        case atStart => exact ⟨0, [], rfl, ⟨by omega, by omega, rfl⟩, HM⟩
        case round =>
          obtain ⟨x, M, rfl, HX, HT⟩ := hrel
          clear HM
          have b0_ : wr.cell? ⟨b, 0, none⟩ = some (.slice Ag Z.length cg) := (blk_cell HT.out.base.hb 0).trans rfl
          by_cases q : x < (Z.length : Int)
          · have p : 0 ≤ x := HX.out.1
            obtain ⟨ad, rfl⟩ := HAg.out (by omega)
            obtain ⟨z, hz⟩ := ans_get p q
            have Hz := Aside0.mk hz
            have HzM := Aside0.mk (show Z[M.length]? = some z by rw [show M.length = x.toNat by have := HX.out; omega]; exact hz)
            obtain ⟨A, c, hv⟩ := own_slice (HT.out.own _ z (Nat.le_refl _) HzM.out)
            obtain ⟨g0_, g1_⟩ := raw_at HT.out.base.rg p q (gots_get hz)
            rw [hv] at g1_
            have Hv := Aside0.mk hv
            clear hz hv
            have w1_ : wrap64 (x + 1) = x + 1 := by have := HZ.out; unfold wrap64; omega
            go_wp2_with fail
            clear b0_ g0_ g1_
            have HG0 := Growing.start HT.out HzM.out
            rw [Hv.out] at HG0
            have HG0 := Aside0.mk HG0
            go_loopg [10, 11] 70 (fun g2 s10 s11 wi => ∃ y : Int, s11 = .int .i64 y ∧ Aside0 (0 ≤ y ∧ (g2 : Int) = 70 - y) ∧ Aside0 (Growing w0 wr wi M.length z s10 y.toNat))
            case atStart => exact ⟨0, rfl, ⟨by omega, by omega⟩, HG0⟩
            case round =>
              obtain ⟨y, rfl, HY, HI⟩ := hrel
              clear HG0
              by_cases q2 : y < 70
              · have p2 : 0 ≤ y := HY.out.1
                have w2_ : wrap64 (y + 1) = y + 1 := by unfold wrap64; omega
                have w3_ : wrap64 (100 + x) = 100 + x := by have := HZ.out; unfold wrap64; omega
                have w4_ : IntKind.u64.wrap (100 + x) = 100 + x := by have := HZ.out; unfold IntKind.wrap; simp [IntKind.signed, IntKind.bits]; omega
                go_wp2_with (at_builtin; refine print_append_two (W := wr) w0.heap.size rfl (.tmp 94) (.tmp 98) 29 22 (.int .u64 0) 8 rfl Try.underlying29 (by kernel_rfl) rfl _ (z.xs.length + y.toNat) _ (.int .u64 (100 + x)) rfl rfl rfl HI.out.own HI.out.be.size ?c1 ?c2 ?_; (case c1 => go_light; have := HZl.out _ z Hz.out; simp only [maxLen]; omega); (case c2 => go_light; have := HZl.out _ z Hz.out; omega); intro g_ cap_ w1 how_ hgr_; have HI1 := Aside0.mk (HI.out.step (x := x) HX.out.2.2 how_ hgr_); clear how_ hgr_)
                go_roundg (70 - (y + 1).toNat)
                case measure => go_light; have := HY.out; omega
                case rel => go_light; exact ⟨y + 1, by simp [w2_], ⟨by omega, by have := HY.out; omega⟩, ⟨by have h_ := HI1.out; rwa [show (y + 1).toNat = y.toNat + 1 by omega]⟩⟩
              · have y70 : y = 70 := by have := HY.out; omega
                subst y70
                have HI := Aside0.mk (show Growing w0 _ wr M.length z _ 70 from HI.out)
                obtain ⟨g_, c_, e_, _⟩ := HI.out.own.form (by omega)
                subst e_
                have HR := Aside0.mk (Growing.rm HT.out HzM.out HI.out)
                clear HY
                go_wp2_with (at_builtin; refine Kd.R_append (Kd.raw 1) (w0 := w0) (W := wr) w0.heap.size rfl (.tmp 100) (.tmp 102) 83 29 (.slice none 0 0) 24 rfl Try.underlying83 (by kernel_rfl) rfl (by decide) (by omega) _ _ [.slice (some ⟨g_, 0, none⟩) (z.xs.length + 70) c_] [.slice (some ⟨g_, 0, none⟩) (z.xs.length + 70) c_] (fun _ => True) (fun _ => False) rfl rfl ?c0 (fun _ hk => hk.elim) (fun _ _ => trivial) HR.out HI.out.be HI.out.be.size ?c1 ?_; (case c0 => exact ⟨rfl, rfl, by intro u hu; simp at hu; subst hu; rfl⟩); (case c1 => go_light; have := HX.out; have := HZ.out; simp; omega); intro mv1 w1 hr_ hb_ hg_ hat_; have HN := Aside0.mk (Grow.next HT.out HzM.out HI.out hr_ hg_); clear hr_ hb_ hg_ hat_)
                go_roundg (Z.length - (x + 1).toNat)
                case measure => go_light; have := HX.out; omega
                case rel => go_light; exact ⟨x + 1, _, by simp [w1_], ⟨by omega, by have := HX.out; omega, by have := HX.out; simp; omega⟩, HN⟩
          · go_wp2_with fail
            go_meet
            go_light
            exact ⟨M, ⟨by have := HX.out; omega⟩, HT⟩
      case rest =>
        obtain ⟨M, HML, HG⟩ := hcut
        obtain ⟨Am, cm, e_, hAm⟩ := raw_addr HG.out.rm
        rw [List.length_map, HML.out] at e_ hAm
        have HAm := Aside0.mk hAm
        clear HM hAm
        subst e_
        go_wp2_with fail
        go_loopg [12] Z.length (fun g s12 wr => wr = wc ∧ ∃ x : Int, s12 = .int .i64 x ∧ Aside0 (0 ≤ x ∧ (g : Int) = Z.length - x))
        case atStart => exact ⟨rfl, 0, rfl, ⟨by omega, by omega⟩⟩
        case round =>
          obtain ⟨rfl, x, rfl, HX⟩ := hrel
          have b0_ : wr.cell? ⟨b, 0, none⟩ = some (.slice Ag Z.length cg) := (blk_cell HG.out.base.hb 0).trans rfl
          by_cases q : x < (Z.length : Int)
          · have p : 0 ≤ x := HX.out.1
            obtain ⟨ad, rfl⟩ := HAg.out (by omega)
            obtain ⟨am, rfl⟩ := HAm.out (by omega)
            obtain ⟨z, hz⟩ := ans_get p q
            obtain ⟨v, hvM⟩ : ∃ v, M[x.toNat]? = some v := ⟨_, List.getElem?_eq_getElem (show x.toNat < M.length by have := HML.out; omega)⟩
            have hMI := HG.out.more _ v z hvM hz
            obtain ⟨g, c2, cs, rfl, _, _⟩ := hMI.at_
            have Hz := Aside0.mk hz
            have HF := Aside0.mk hMI.full
            clear hMI
            obtain ⟨A, c, hv, hA⟩ := HV.out _ z hz
            obtain ⟨g0_, g1_⟩ := raw_at HG.out.base.rg p q (gots_get hz)
            rw [hv] at g1_
            have m_ := raw1_at HG.out.rm p q (by rw [List.getElem?_map, hvM]; rfl)
            have Hv := Aside0.mk hv
            have HA := Aside0.mk hA
            clear hz hv hvM hA
            obtain ⟨L, hL⟩ : ∃ L, L = z.xs.length + 70 := ⟨_, rfl⟩
            rw [← hL] at m_ HF
            have HL := Aside0.mk hL
            clear hL
            have w1_ : wrap64 (x + 1) = x + 1 := by have := HZ.out; unfold wrap64; omega
            have w3_ : wrap64 (100 + x) = 100 + x := by have := HZ.out; unfold wrap64; omega
            have w4_ : IntKind.u64.wrap (100 + x) = 100 + x := by have := HZ.out; unfold IntKind.wrap; simp [IntKind.signed, IntKind.bits]; omega
            go_wp2_with fail
            go_loopg [13] L (fun g s13 wr2 => wr2 = wr ∧ ∃ y : Int, s13 = .int .i64 y ∧ Aside0 (0 ≤ y ∧ (g : Int) = L - y))
            case atStart => exact ⟨rfl, 0, rfl, ⟨by omega, by omega⟩⟩
            case round =>
              obtain ⟨rfl, y, rfl, HY⟩ := hrel
              by_cases q2 : y < (L : Int)
              · have p2 : 0 ≤ y := HY.out.1
                have w2_ : wrap64 (y + 1) = y + 1 := by have := HL.out; have := HZl.out _ z Hz.out; unfold wrap64; omega
                have c_ : wr.cell? ⟨g, y.toNat, none⟩ = some (.int .u64 (100 + x)) := by
                  obtain ⟨g', e_, hc⟩ := HF.out y.toNat (by omega)
                  cases e_
                  rwa [show ((x.toNat : Nat) : Int) = x by omega] at hc
                by_cases q3 : y < (z.xs.length : Int)
                · obtain ⟨gb, rfl⟩ := HA.out (by omega)
                  have d_ : wr.cell? ⟨gb, y.toNat, none⟩ = some (.int .u64 (100 + x)) := by
                    obtain ⟨g', e_, hc⟩ := HG.out.got _ z Hz.out y.toNat (by omega)
                    rw [Hv.out] at e_
                    cases e_
                    rwa [show ((x.toNat : Nat) : Int) = x by omega] at hc
                  go_wp2_with fail
                  go_roundg (L - (y + 1).toNat)
                  case measure => go_light; have := HY.out; omega
                  case rel => go_light; exact ⟨rfl, y + 1, by simp [w2_], ⟨by omega, by have := HY.out; omega⟩⟩
                · go_wp2_with fail
                  go_roundg (L - (y + 1).toNat)
                  case measure => go_light; have := HY.out; omega
                  case rel => go_light; exact ⟨rfl, y + 1, by simp [w2_], ⟨by omega, by have := HY.out; omega⟩⟩
              · go_wp2_with fail
                go_roundg (Z.length - (x + 1).toNat)
                case measure => go_light; have := HX.out; omega
                case rel => go_light; exact ⟨rfl, x + 1, by simp [w1_], ⟨by omega, by have := HX.out; omega⟩⟩
          · go_wp2_with fail
            go_ret
            exact ⟨rfl, HG.out.base.be⟩
end Go.Proofs.Ytlghmadoogblcaa.Book
