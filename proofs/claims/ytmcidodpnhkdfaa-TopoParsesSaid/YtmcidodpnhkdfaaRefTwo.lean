/- The reference's Parse, two parts. -/
import Derived.Test.YtmcidodpnhkdfaaRefWalk
import Derived.Laws.DeepStrings4
namespace Go.Proofs.Ytmcidodpnhkdfaa.RefWalk
open Go.RowKit Go.Proofs.YtmcidodpnhkdfaaW.PrintWords Go.Proofs.YtmcidodpnhkdfaaW.PrintLast Go.Proofs.YtmcidodpnhkdfaaW.PrintMore Go.Proofs.Ytmcidodpnhkdfaa.ParseSpec Go.Proofs.Ytmcidodpnhkdfaa.PF
set_option linter.unusedVariables false
set_option linter.unusedSimpArgs false

set_option maxHeartbeats 16000000 in
set_option maxRecDepth 100000 in
theorem r_2 (s : ByteArray) (hs : s.size ≤ 1048576) (kf : Nat) (kd fa : Int) (p : Pt) (q : Pt) (hp : Good s p) (hq : Good s q) (hf : vivariumref04_form.f kf s = some (kd, [toR p, toR q], fa, 0)) (kw : Nat) (V : Nat → Nat → Int) (hV : ∀ a b, a ≤ b → b ≤ s.size → vivariumref04_worth.f kw (s.extract a b) = some (V a b)) (kt ks : Nat) (ta sa : Int) (tb sb : Bool) (ht : ¬ (V p.at_ p.en) > 65536 → ¬ (V q.at_ q.en) > 65536 → ¬ (3 ≤ kd ∧ (V p.at_ p.en) = 0) → ¬ (3 ≤ kd ∧ (V q.at_ q.en) = 0) → vivariumref04_twist.f kt s kd [toR p, toR q] = some (ta, tb)) (hsf : ¬ (V p.at_ p.en) > 65536 → ¬ (V q.at_ q.en) > 65536 → ¬ (3 ≤ kd ∧ (V p.at_ p.en) = 0) → ¬ (3 ≤ kd ∧ (V q.at_ q.en) = 0) → tb = false → vivariumref04_shift.f ks s kd [toR p, toR q] (V p.at_ p.en) (V q.at_ q.en) = some (sa, sb)) (hVr : ¬ (V p.at_ p.en) > 65536 → ¬ (V q.at_ q.en) > 65536 → ¬ (3 ≤ kd ∧ (V p.at_ p.en) = 0) → ¬ (3 ≤ kd ∧ (V q.at_ q.en) = 0) → tb = false → sb = false → ∀ a b, 0 ≤ V a b ∧ V a b ≤ 1048577) (R : Value) (hR : R = if (V p.at_ p.en) > 65536 then .tuple #[.agg (T5 0 0 0 0 0), .int .i64 p.at_, .int .i64 41] else if (V q.at_ q.en) > 65536 then .tuple #[.agg (T5 0 0 0 0 0), .int .i64 q.at_, .int .i64 41] else if (3 ≤ kd ∧ (V p.at_ p.en) = 0) then .tuple #[.agg (T5 0 0 0 0 0), .int .i64 p.at_, .int .i64 42] else if (3 ≤ kd ∧ (V q.at_ q.en) = 0) then .tuple #[.agg (T5 0 0 0 0 0), .int .i64 q.at_, .int .i64 42] else if tb = true then .tuple #[.agg (T5 0 0 0 0 0), .int .i64 ta, .int .i64 44] else if sb = true then .tuple #[.agg (T5 0 0 0 0 0), .int .i64 sa, .int .i64 43] else .tuple #[.agg (T5 kd (V p.at_ p.en) (V q.at_ q.en) (turnsV V s [p, q] 0 (0, 0)).1 (turnsV V s [p, q] 0 (0, 0)).2), .int .i64 0, .int .i64 0]) (w : World) :
    Calls Try.prog 17 #[.string s] w fun e w' => e = .returned R ∧ Below w.heap.size w w' := by
  have hu := Try.underlying23
  have hz := Try.underlying66
  have HB := Aside0.mk (Below.refl w.heap.size w)
  have b1 : decide ((1048576 : Int) < (s.size : Int)) = false := decide_eq_false (by omega)
  have HF := Aside0.mk hf
  have GP := Aside0.mk hp
  have HV := Aside0.mk hV
  replace ht := Aside0.mk ht
  replace hsf := Aside0.mk hsf
  replace hVr := Aside0.mk hVr
  replace hR := Aside0.mk hR
  have GQ := Aside0.mk hq
  clear hf hp hV hq
  go_enter Try.func17, Try.ntmps17
  go_upto_region 9 with (first | ((with_reducible refine gate_dst (N := 2) rfl ?_); refine box_event ?hg (N := 2) ?hd (cs := #[.int .u8 0, .int .i64 0, .int .i64 0, .int .u8 0, .int .i64 0]) (t := 23) ?hr ?_; (case hd => rfl); (case hg => rfl); (case hr => first | (go_simp; done) | (go_simp; rfl)); intro g2 hg2 wa hbox hb; have G2 := Aside0.mk (Nat.le_of_eq hg2.symm); have H2 := Aside0.mk hbox; replace HB := Aside0.mk (below_step HB.out hb); clear hb hbox hg2) | (go_at_call 30; (with_reducible refine (vivariumref04_form.calls kf s kd [toR p, toR q] fa 0 _ HF.out).mono ?_); rintro en_ wb ⟨pv, rfl, hr_, hb⟩; have hr2_ := Kd.R_lower hr_ HB.out.size; replace H2 := Aside0.mk (blk_below H2.out hb); replace HB := Aside0.mk (below_step HB.out hb); have HR := Aside0.mk hr2_; clear hb hr_ hr2_; obtain ⟨pa, pc, rfl, _, _⟩ := partsAt HR.out (by simp); obtain ⟨gp, rfl⟩ := Kd.R_head HR.out) | ((with_reducible refine gate_dst (N := 9) rfl ?_); refine box_event ?hg (N := 9) ?hd (cs := #[.int .u8 0, .int .i64 0, .int .i64 0, .int .u8 0, .int .i64 0]) (t := 23) ?hr ?_; (case hd => rfl); (case hg => rfl); (case hr => first | (go_simp; done) | (go_simp; rfl)); intro g7 hg7 wc hbox hb; have G7 := Aside0.mk (show w.heap.size ≤ g7 by rw [hg7]; exact HB.out.size); have N27 := Aside0.mk (show g2 ≠ g7 by rw [hg7]; exact Nat.ne_of_lt (blk_lt H2.out)); replace H2 := Aside0.mk (blk_below H2.out hb); replace HR := Aside0.mk (Kd.R_below HR.out hb); replace HB := Aside0.mk (below_step HB.out hb); have H7 := Aside0.mk hbox; clear hb hbox hg7; obtain ⟨tc0, tc1, tc2, tc3, tc4⟩ := t5_cells H7.out) | ((with_reducible refine gate_store (t := 23) (p := 9) (v := .tmp 30) rfl ?_); obtain ⟨r0, r1, r2, r3, r4, _⟩ := froz H7.out; have HR7 := Aside0.mk (Kd.R_types HR.out H7.out (by decide)); refine store_event (w1 := ?wwwd) ?hgwd rfl rfl ?hrwd ?_; (case hgwd => rfl); (case hrwd => go_simp; rfl); intro wd hw; clear r0 r1 r2 r3 r4 tc0 tc1 tc2 tc3 tc4; have h7' : wd.heap[g7]? = some (.cells (T5 kd 0 0 0 0) 23 (0, 0)) := (by rw [hw]; exact blk_put (blk_put (blk_put (blk_put (blk_put H7.out 0 _ rfl) 1 _ rfl) 2 _ rfl) 3 _ rfl) 4 _ rfl); have h2' : wd.heap[g2]? = some (.cells (T5 0 0 0 0 0) 23 (0, 0)) := (by rw [hw]; exact (blk_far (blk_far (blk_far (blk_far (blk_far H2.out (p := ⟨g7, 0, none⟩) N27.out _) (p := ⟨g7, 1, none⟩) N27.out _) (p := ⟨g7, 2, none⟩) N27.out _) (p := ⟨g7, 3, none⟩) N27.out _) (p := ⟨g7, 4, none⟩) N27.out _)); have hB' : Below w.heap.size w wd := (by rw [hw]; exact below_set (below_set (below_set (below_set (below_set HB.out G7.out) G7.out) G7.out) G7.out) G7.out); have hR' : Kd.R k66 66 wd w.heap.size (fun _ => True) (.slice (some ⟨gp, 0, none⟩) 2 pc) [toR p, toR q] := (by rw [hw]; exact Kd.R_mono (Kd.R_far (p := ⟨g7, 4, none⟩) (Kd.R_far (p := ⟨g7, 3, none⟩) (Kd.R_far (p := ⟨g7, 2, none⟩) (Kd.R_far (p := ⟨g7, 1, none⟩) (Kd.R_far (p := ⟨g7, 0, none⟩) HR7.out (fun _ hk => hk.2) _) (fun _ hk => hk.2) _) (fun _ hk => hk.2) _) (fun _ hk => hk.2) _) (fun _ hk => hk.2) _) (fun _ _ => trivial)); clear H7 H2 HB HR HR7 hw; have F : Aside0 (K w wd g2 g7 gp pc [toR p, toR q] kd 0 0 0 0) := ⟨⟨hB', h2', h7', hR', G2.out, G7.out, N27.out⟩⟩; clear h7' h2' hB' hR'; obtain ⟨tc0, tc1, tc2, tc3, tc4⟩ := t5_cells F.out.h7; obtain ⟨x0, x1, x2, x3, x4, x5⟩ := F.out.part 0 rfl; obtain ⟨y0, y1, y2, y3, y4, y5⟩ := F.out.part 1 rfl; simp only [toR, Nat.zero_mul, Nat.zero_add, Nat.one_mul, Nat.reduceAdd] at x0 x1 x2 x3 x4 x5 y0 y1 y2 y3 y4 y5))
  have e1 : (0 : Int) ≤ (p.at_ : Int) := by omega
  have e2 : (p.at_ : Int) ≤ (p.en : Int) := by have := GP.out.o1; omega
  have e3 : (0 : Int) ≤ (p.en : Int) := by omega
  have e4 : (p.en : Int) ≤ (s.size : Int) := by have := GP.out.o2; omega
  refine start_ (n := 13) (S := fun w' => w'.cell? ⟨gp, 0, none⟩ = some (.int .i64 p.at_) ∧ w'.cell? ⟨gp, 1, none⟩ = some (.int .i64 p.en)) (ds := [12]) #[false, false, false, false, false, false, false, false, false, false, false, false, false] (by kernel_rfl) rfl rfl ⟨x0, x1⟩ (fun hHeld => ?_)
  (try clear tc0 tc1 tc2 tc3 tc4); (try clear x0 x1 x2 x3 x4 x5); (try clear y0 y1 y2 y3 y4 y5)
  replace F := Aside0.mk F.out.drew
  generalize wd.drew = wx9 at F hHeld ⊢
  refine pure_ (i := 0) (N := (some 35)) (v := ?_) (a' := ?_) #[true, false, false, false, false, false, false, false, false, false, false, false, false] rfl rfl (by kernel_rfl) (fun _ _ _ h => h) (Or.inl ⟨by rfl, ?_⟩) ?_ ?_
  rotate_left
  · intro w'
    go_simp
    with_reducible rfl
  rotate_left
  · simp only [Act.put, List.setIfInBounds_toArray, List.set_cons_zero, List.set_cons_succ, i64_w, i32_w]
    rfl
  refine pure_ (i := 1) (N := (some 36)) (v := ?_) (a' := ?_) #[true, true, false, false, false, false, false, false, false, false, false, false, false] rfl rfl (by kernel_rfl) (fun _ _ _ h => h) (Or.inl ⟨by rfl, ?_⟩) ?_ ?_
  rotate_left
  · intro w'
    go_simp
    with_reducible rfl
  rotate_left
  · simp only [Act.put, List.setIfInBounds_toArray, List.set_cons_zero, List.set_cons_succ, i64_w, i32_w]
    rfl
  refine pure_ (i := 2) (N := (some 37)) (v := ?_) (a' := ?_) #[true, true, true, false, false, false, false, false, false, false, false, false, false] rfl rfl (by kernel_rfl) (fun _ _ _ h => h) (Or.inl ⟨by rfl, ?_⟩) ?_ ?_
  rotate_left
  · intro w'
    go_simp
    with_reducible rfl
  rotate_left
  · simp only [Act.put, List.setIfInBounds_toArray, List.set_cons_zero, List.set_cons_succ, i64_w, i32_w]
    rfl
  refine pure_ (i := 3) (N := (some 38)) (v := ?_) (a' := ?_) #[true, true, true, true, false, false, false, false, false, false, false, false, false] rfl rfl (by kernel_rfl) (fun _ _ _ h => h) (Or.inl ⟨by rfl, ?_⟩) ?_ ?_
  rotate_left
  · intro w'
    go_simp
    with_reducible rfl
  rotate_left
  · simp only [Act.put, List.setIfInBounds_toArray, List.set_cons_zero, List.set_cons_succ, i64_w, i32_w]
    rfl
  refine take_ (i := 4) (N := (some 39)) (v := ?_) (a' := ?_) #[true, true, true, true, true, false, false, false, false, false, false, false, false] rfl rfl (by kernel_rfl) (fun _ _ _ h => h) (Or.inl ⟨by rfl, ?_⟩) hHeld ?_ ?_
  rotate_left
  · rintro w' ⟨s0, s1⟩
    go_simp
    with_reducible rfl
  rotate_left
  · simp only [Act.put, List.setIfInBounds_toArray, List.set_cons_zero, List.set_cons_succ, i64_w, i32_w]
    rfl
  refine pure_ (i := 5) (N := (some 40)) (v := ?_) (a' := ?_) #[true, true, true, true, true, true, false, false, false, false, false, false, false] rfl rfl (by kernel_rfl) (fun _ _ _ h => h) (Or.inl ⟨by rfl, ?_⟩) ?_ ?_
  rotate_left
  · intro w'
    go_simp
    with_reducible rfl
  rotate_left
  · simp only [Act.put, List.setIfInBounds_toArray, List.set_cons_zero, List.set_cons_succ, i64_w, i32_w]
    rfl
  refine pure_ (i := 6) (N := (some 41)) (v := ?_) (a' := ?_) #[true, true, true, true, true, true, true, false, false, false, false, false, false] rfl rfl (by kernel_rfl) (fun _ _ _ h => h) (Or.inl ⟨by rfl, ?_⟩) ?_ ?_
  rotate_left
  · intro w'
    go_simp
    with_reducible rfl
  rotate_left
  · simp only [Act.put, List.setIfInBounds_toArray, List.set_cons_zero, List.set_cons_succ, i64_w, i32_w]
    rfl
  refine pure_ (i := 7) (N := (some 42)) (v := ?_) (a' := ?_) #[true, true, true, true, true, true, true, true, false, false, false, false, false] rfl rfl (by kernel_rfl) (fun _ _ _ h => h) (Or.inl ⟨by rfl, ?_⟩) ?_ ?_
  rotate_left
  · intro w'
    go_simp
    with_reducible rfl
  rotate_left
  · simp only [Act.put, List.setIfInBounds_toArray, List.set_cons_zero, List.set_cons_succ, i64_w, i32_w]
    rfl
  refine take_ (i := 8) (N := (some 43)) (v := ?_) (a' := ?_) #[true, true, true, true, true, true, true, true, true, false, false, false, false] rfl rfl (by kernel_rfl) (fun _ _ _ h => h) (Or.inl ⟨by rfl, ?_⟩) hHeld ?_ ?_
  rotate_left
  · rintro w' ⟨s0, s1⟩
    go_simp
    with_reducible rfl
  rotate_left
  · simp only [Act.put, List.setIfInBounds_toArray, List.set_cons_zero, List.set_cons_succ, i64_w, i32_w]
    rfl
  refine pure_ (i := 9) (N := (some 44)) (v := ?_) (a' := ?_) #[true, true, true, true, true, true, true, true, true, true, false, false, false] rfl rfl (by kernel_rfl) (fun _ _ _ h => h) (Or.inl ⟨by rfl, ?_⟩) ?_ ?_
  rotate_left
  · intro w'
    go_simp
    with_reducible rfl
  rotate_left
  · simp only [Act.put, List.setIfInBounds_toArray, List.set_cons_zero, List.set_cons_succ, i64_w, i32_w]
    rfl
  refine one_ (i := 10) (N := (some 45)) #[true, true, true, true, true, true, true, true, true, true, true, false, false] rfl rfl (by kernel_rfl) (by decide) (fun K hK => ?_)
  refine goes_ Try.func31 (by kernel_rfl) rfl #[.string (s.extract p.at_ p.en)] (by rfl) rfl rfl (by (try simp only [List.map_toArray, List.map_cons, List.map_nil]); first | done | rfl) ?_
  with_reducible refine (vivariumref04_worth.calls kw (s.extract p.at_ p.en) (V p.at_ p.en) _ (HV.out _ _ GP.out.o1 GP.out.o2)).mono ?_
  rintro en_ w' ⟨rfl, nd, rfl⟩
  refine ⟨_, rfl, ?_⟩
  refine hK.out _ _ hHeld (fun hHeld => ?_)
  clear hK K
  replace F := Aside0.mk (F.out.drewN nd)
  generalize wx9.drewN nd = wy9 at F hHeld ⊢
  refine pure_ (i := 11) (N := (some 46)) (v := ?_) (a' := ?_) #[true, true, true, true, true, true, true, true, true, true, true, true, false] rfl rfl (by kernel_rfl) (fun _ _ _ h => h) (Or.inl ⟨by rfl, ?_⟩) ?_ ?_
  rotate_left
  · intro w'
    go_simp
    with_reducible rfl
  rotate_left
  · simp only [Act.put, List.setIfInBounds_toArray, List.set_cons_zero, List.set_cons_succ, i64_w, i32_w]
    rfl
  refine last_ (i := 12) (N := none) #[true, true, true, true, true, true, true, true, true, true, true, true, true] rfl rfl (by kernel_rfl) (by decide) (fun K hK => ?_)
  obtain ⟨r0, r1, r2, r3, r4, _⟩ := froz F.out.h7
  obtain ⟨tc0, tc1, tc2, tc3, tc4⟩ := t5_cells F.out.h7
  refine skip_ (w1 := wy9.setCell ⟨g7, 1, none⟩ (.int .i64 (V p.at_ p.en))) (by rfl) rfl ?_ ?_
  · first | (go_simp; done) | (go_simp; rfl)
  refine hK.out _ _ ?_
  have hF_ := F.out.set 1 (.int .i64 (V p.at_ p.en)) (a' := kd) (b' := (V p.at_ p.en)) (c' := 0) (d' := 0) (e' := 0) rfl
  replace F := Aside0.mk hF_
  generalize wy9.setCell ⟨g7, 1, none⟩ (.int .i64 (V p.at_ p.en)) = wf at F ⊢
  clear hK K hF_ r0 r1 r2 r3 r4 tc0 tc1 tc2 tc3 tc4 hHeld
  refine done_ (by kernel_rfl) ?_
  clear e1 e2 e3 e4
  obtain ⟨tc0, tc1, tc2, tc3, tc4⟩ := t5_cells F.out.h7
  obtain ⟨x0, x1, x2, x3, x4, x5⟩ := F.out.part 0 rfl
  obtain ⟨y0, y1, y2, y3, y4, y5⟩ := F.out.part 1 rfl
  simp only [toR, Nat.zero_mul, Nat.zero_add, Nat.one_mul, Nat.reduceAdd] at x0 x1 x2 x3 x4 x5 y0 y1 y2 y3 y4 y5
  go_upto_region 12 with (first | ((with_reducible refine gate_store (t := 3) (p := 49) (v := .tmp 48) rfl ?_); obtain ⟨r0, r1, r2, r3, r4, _⟩ := froz F.out.h7; refine store_event (w1 := ?wwwg) ?hgwg rfl rfl ?hrwg ?_; (case hgwg => rfl); (case hrwg => go_simp; rfl); intro wg hw; clear r0 r1 r2 r3 r4; (try clear tc0 tc1 tc2 tc3 tc4); (try clear x0 x1 x2 x3 x4 x5); (try clear y0 y1 y2 y3 y4 y5); have hF_ : K w wg g2 g7 gp pc [toR p, toR q] kd (V p.at_ p.en) (V p.at_ p.en) 0 0 := (by rw [hw]; exact F.out.set 2 (.int .i64 (V p.at_ p.en)) rfl); replace F := Aside0.mk hF_; clear hF_ hw; obtain ⟨tc0, tc1, tc2, tc3, tc4⟩ := t5_cells F.out.h7; obtain ⟨x0, x1, x2, x3, x4, x5⟩ := F.out.part 0 rfl; obtain ⟨y0, y1, y2, y3, y4, y5⟩ := F.out.part 1 rfl; simp only [toR, Nat.zero_mul, Nat.zero_add, Nat.one_mul, Nat.reduceAdd] at x0 x1 x2 x3 x4 x5 y0 y1 y2 y3 y4 y5))
  have e1 : (0 : Int) ≤ (q.at_ : Int) := by omega
  have e2 : (q.at_ : Int) ≤ (q.en : Int) := by have := GQ.out.o1; omega
  have e3 : (0 : Int) ≤ (q.en : Int) := by omega
  have e4 : (q.en : Int) ≤ (s.size : Int) := by have := GQ.out.o2; omega
  refine start_ (n := 13) (S := fun w' => w'.cell? ⟨gp, 6, none⟩ = some (.int .i64 q.at_) ∧ w'.cell? ⟨gp, 7, none⟩ = some (.int .i64 q.en)) (ds := [12]) #[false, false, false, false, false, false, false, false, false, false, false, false, false] (by kernel_rfl) rfl rfl ⟨y0, y1⟩ (fun hHeld => ?_)
  (try clear tc0 tc1 tc2 tc3 tc4); (try clear x0 x1 x2 x3 x4 x5); (try clear y0 y1 y2 y3 y4 y5)
  replace F := Aside0.mk F.out.drew
  generalize wg.drew = wx12 at F hHeld ⊢
  refine pure_ (i := 0) (N := (some 53)) (v := ?_) (a' := ?_) #[true, false, false, false, false, false, false, false, false, false, false, false, false] rfl rfl (by kernel_rfl) (fun _ _ _ h => h) (Or.inl ⟨by rfl, ?_⟩) ?_ ?_
  rotate_left
  · intro w'
    go_simp
    with_reducible rfl
  rotate_left
  · simp only [Act.put, List.setIfInBounds_toArray, List.set_cons_zero, List.set_cons_succ, i64_w, i32_w]
    rfl
  refine pure_ (i := 1) (N := (some 54)) (v := ?_) (a' := ?_) #[true, true, false, false, false, false, false, false, false, false, false, false, false] rfl rfl (by kernel_rfl) (fun _ _ _ h => h) (Or.inl ⟨by rfl, ?_⟩) ?_ ?_
  rotate_left
  · intro w'
    go_simp
    with_reducible rfl
  rotate_left
  · simp only [Act.put, List.setIfInBounds_toArray, List.set_cons_zero, List.set_cons_succ, i64_w, i32_w]
    rfl
  refine pure_ (i := 2) (N := (some 55)) (v := ?_) (a' := ?_) #[true, true, true, false, false, false, false, false, false, false, false, false, false] rfl rfl (by kernel_rfl) (fun _ _ _ h => h) (Or.inl ⟨by rfl, ?_⟩) ?_ ?_
  rotate_left
  · intro w'
    go_simp
    with_reducible rfl
  rotate_left
  · simp only [Act.put, List.setIfInBounds_toArray, List.set_cons_zero, List.set_cons_succ, i64_w, i32_w]
    rfl
  refine pure_ (i := 3) (N := (some 56)) (v := ?_) (a' := ?_) #[true, true, true, true, false, false, false, false, false, false, false, false, false] rfl rfl (by kernel_rfl) (fun _ _ _ h => h) (Or.inl ⟨by rfl, ?_⟩) ?_ ?_
  rotate_left
  · intro w'
    go_simp
    with_reducible rfl
  rotate_left
  · simp only [Act.put, List.setIfInBounds_toArray, List.set_cons_zero, List.set_cons_succ, i64_w, i32_w]
    rfl
  refine take_ (i := 4) (N := (some 57)) (v := ?_) (a' := ?_) #[true, true, true, true, true, false, false, false, false, false, false, false, false] rfl rfl (by kernel_rfl) (fun _ _ _ h => h) (Or.inl ⟨by rfl, ?_⟩) hHeld ?_ ?_
  rotate_left
  · rintro w' ⟨s0, s1⟩
    go_simp
    with_reducible rfl
  rotate_left
  · simp only [Act.put, List.setIfInBounds_toArray, List.set_cons_zero, List.set_cons_succ, i64_w, i32_w]
    rfl
  refine pure_ (i := 5) (N := (some 58)) (v := ?_) (a' := ?_) #[true, true, true, true, true, true, false, false, false, false, false, false, false] rfl rfl (by kernel_rfl) (fun _ _ _ h => h) (Or.inl ⟨by rfl, ?_⟩) ?_ ?_
  rotate_left
  · intro w'
    go_simp
    with_reducible rfl
  rotate_left
  · simp only [Act.put, List.setIfInBounds_toArray, List.set_cons_zero, List.set_cons_succ, i64_w, i32_w]
    rfl
  refine pure_ (i := 6) (N := (some 59)) (v := ?_) (a' := ?_) #[true, true, true, true, true, true, true, false, false, false, false, false, false] rfl rfl (by kernel_rfl) (fun _ _ _ h => h) (Or.inl ⟨by rfl, ?_⟩) ?_ ?_
  rotate_left
  · intro w'
    go_simp
    with_reducible rfl
  rotate_left
  · simp only [Act.put, List.setIfInBounds_toArray, List.set_cons_zero, List.set_cons_succ, i64_w, i32_w]
    rfl
  refine pure_ (i := 7) (N := (some 60)) (v := ?_) (a' := ?_) #[true, true, true, true, true, true, true, true, false, false, false, false, false] rfl rfl (by kernel_rfl) (fun _ _ _ h => h) (Or.inl ⟨by rfl, ?_⟩) ?_ ?_
  rotate_left
  · intro w'
    go_simp
    with_reducible rfl
  rotate_left
  · simp only [Act.put, List.setIfInBounds_toArray, List.set_cons_zero, List.set_cons_succ, i64_w, i32_w]
    rfl
  refine take_ (i := 8) (N := (some 61)) (v := ?_) (a' := ?_) #[true, true, true, true, true, true, true, true, true, false, false, false, false] rfl rfl (by kernel_rfl) (fun _ _ _ h => h) (Or.inl ⟨by rfl, ?_⟩) hHeld ?_ ?_
  rotate_left
  · rintro w' ⟨s0, s1⟩
    go_simp
    with_reducible rfl
  rotate_left
  · simp only [Act.put, List.setIfInBounds_toArray, List.set_cons_zero, List.set_cons_succ, i64_w, i32_w]
    rfl
  refine pure_ (i := 9) (N := (some 62)) (v := ?_) (a' := ?_) #[true, true, true, true, true, true, true, true, true, true, false, false, false] rfl rfl (by kernel_rfl) (fun _ _ _ h => h) (Or.inl ⟨by rfl, ?_⟩) ?_ ?_
  rotate_left
  · intro w'
    go_simp
    with_reducible rfl
  rotate_left
  · simp only [Act.put, List.setIfInBounds_toArray, List.set_cons_zero, List.set_cons_succ, i64_w, i32_w]
    rfl
  refine one_ (i := 10) (N := (some 63)) #[true, true, true, true, true, true, true, true, true, true, true, false, false] rfl rfl (by kernel_rfl) (by decide) (fun K hK => ?_)
  refine goes_ Try.func31 (by kernel_rfl) rfl #[.string (s.extract q.at_ q.en)] (by rfl) rfl rfl (by (try simp only [List.map_toArray, List.map_cons, List.map_nil]); first | done | rfl) ?_
  with_reducible refine (vivariumref04_worth.calls kw (s.extract q.at_ q.en) (V q.at_ q.en) _ (HV.out _ _ GQ.out.o1 GQ.out.o2)).mono ?_
  rintro en_ w' ⟨rfl, nd, rfl⟩
  refine ⟨_, rfl, ?_⟩
  refine hK.out _ _ hHeld (fun hHeld => ?_)
  clear hK K
  replace F := Aside0.mk (F.out.drewN nd)
  generalize wx12.drewN nd = wy12 at F hHeld ⊢
  refine pure_ (i := 11) (N := (some 64)) (v := ?_) (a' := ?_) #[true, true, true, true, true, true, true, true, true, true, true, true, false] rfl rfl (by kernel_rfl) (fun _ _ _ h => h) (Or.inl ⟨by rfl, ?_⟩) ?_ ?_
  rotate_left
  · intro w'
    go_simp
    with_reducible rfl
  rotate_left
  · simp only [Act.put, List.setIfInBounds_toArray, List.set_cons_zero, List.set_cons_succ, i64_w, i32_w]
    rfl
  refine last_ (i := 12) (N := none) #[true, true, true, true, true, true, true, true, true, true, true, true, true] rfl rfl (by kernel_rfl) (by decide) (fun K hK => ?_)
  obtain ⟨r0, r1, r2, r3, r4, _⟩ := froz F.out.h7
  obtain ⟨tc0, tc1, tc2, tc3, tc4⟩ := t5_cells F.out.h7
  refine skip_ (w1 := wy12.setCell ⟨g7, 2, none⟩ (.int .i64 (V q.at_ q.en))) (by rfl) rfl ?_ ?_
  · first | (go_simp; done) | (go_simp; rfl)
  refine hK.out _ _ ?_
  have hF_ := F.out.set 2 (.int .i64 (V q.at_ q.en)) (a' := kd) (b' := (V p.at_ p.en)) (c' := (V q.at_ q.en)) (d' := 0) (e' := 0) rfl
  replace F := Aside0.mk hF_
  generalize wy12.setCell ⟨g7, 2, none⟩ (.int .i64 (V q.at_ q.en)) = wh at F ⊢
  clear hK K hF_ r0 r1 r2 r3 r4 tc0 tc1 tc2 tc3 tc4 hHeld
  refine done_ (by kernel_rfl) ?_
  clear e1 e2 e3 e4
  obtain ⟨tc0, tc1, tc2, tc3, tc4⟩ := t5_cells F.out.h7
  obtain ⟨x0, x1, x2, x3, x4, x5⟩ := F.out.part 0 rfl
  obtain ⟨y0, y1, y2, y3, y4, y5⟩ := F.out.part 1 rfl
  simp only [toR, Nat.zero_mul, Nat.zero_add, Nat.one_mul, Nat.reduceAdd] at x0 x1 x2 x3 x4 x5 y0 y1 y2 y3 y4 y5
  go_upto_region 13 with fail
  by_cases c1 : (V p.at_ p.en) > 65536
  · have d1 : decide (65536 < (V p.at_ p.en)) = true := decide_eq_true c1
    go_upto_region 14 with fail
    refine start_ (n := 8) (S := fun w' => w'.cell? ⟨gp, 0, none⟩ = some (.int .i64 p.at_)) (ds := []) #[false, false, false, false, false, false, false, false] (by kernel_rfl) rfl rfl x0 (fun hHeld => ?_)
    (try clear tc0 tc1 tc2 tc3 tc4); (try clear x0 x1 x2 x3 x4 x5); (try clear y0 y1 y2 y3 y4 y5)
    replace F := Aside0.mk F.out.drew
    generalize wh.drew = wx14 at F hHeld ⊢
    refine pure_ (i := 0) (N := (some 68)) (v := ?_) (a' := ?_) #[true, false, false, false, false, false, false, false] rfl rfl (by kernel_rfl) (fun _ _ _ h => h) (Or.inl ⟨by rfl, ?_⟩) ?_ ?_
    rotate_left
    · intro w'
      go_simp
      with_reducible rfl
    rotate_left
    · simp only [Act.put, List.setIfInBounds_toArray, List.set_cons_zero, List.set_cons_succ, i64_w, i32_w]
      rfl
    refine pure_ (i := 1) (N := (some 69)) (v := ?_) (a' := ?_) #[true, true, false, false, false, false, false, false] rfl rfl (by kernel_rfl) (fun _ _ _ h => h) (Or.inl ⟨by rfl, ?_⟩) ?_ ?_
    rotate_left
    · intro w'
      go_simp
      with_reducible rfl
    rotate_left
    · simp only [Act.put, List.setIfInBounds_toArray, List.set_cons_zero, List.set_cons_succ, i64_w, i32_w]
      rfl
    refine pure_ (i := 2) (N := (some 70)) (v := ?_) (a' := ?_) #[true, true, true, false, false, false, false, false] rfl rfl (by kernel_rfl) (fun _ _ _ h => h) (Or.inl ⟨by rfl, ?_⟩) ?_ ?_
    rotate_left
    · intro w'
      go_simp
      with_reducible rfl
    rotate_left
    · simp only [Act.put, List.setIfInBounds_toArray, List.set_cons_zero, List.set_cons_succ, i64_w, i32_w]
      rfl
    refine pure_ (i := 3) (N := (some 71)) (v := ?_) (a' := ?_) #[true, true, true, true, false, false, false, false] rfl rfl (by kernel_rfl) (fun _ _ _ h => h) (Or.inl ⟨by rfl, ?_⟩) ?_ ?_
    rotate_left
    · intro w'
      go_simp
      with_reducible rfl
    rotate_left
    · simp only [Act.put, List.setIfInBounds_toArray, List.set_cons_zero, List.set_cons_succ, i64_w, i32_w]
      rfl
    refine take_ (i := 4) (N := (some 72)) (v := ?_) (a' := ?_) #[true, true, true, true, true, false, false, false] rfl rfl (by kernel_rfl) (fun _ _ _ h => h) (Or.inl ⟨by rfl, ?_⟩) hHeld ?_ ?_
    rotate_left
    · rintro w' s0
      go_simp
      with_reducible rfl
    rotate_left
    · simp only [Act.put, List.setIfInBounds_toArray, List.set_cons_zero, List.set_cons_succ, i64_w, i32_w]
      rfl
    refine one_ (i := 5) (N := none) #[true, true, true, true, true, true, false, false] rfl rfl (by kernel_rfl) (by decide) (fun K hK => ?_)
    obtain ⟨r0, r1, r2, r3, r4, _⟩ := froz F.out.h2
    obtain ⟨s0, s1, s2, s3, s4⟩ := t5_cells F.out.h2
    have hD := F.out.done (a' := 0) (b' := 0) (c' := 0) (d' := 0) (e' := 0)
    have FD := Aside0.mk hD
    clear hD
    refine skip_ (w1 := ?_) (by rfl) rfl ?_ ?_
    rotate_left
    · go_simp
      rfl
    have hne_ := F.out.ne
    refine hK.out _ _ (cell_far hne_ (cell_far hne_ (cell_far hne_ (cell_far hne_ (cell_far hne_ hHeld))))) (fun hHeld => ?_)
    clear hK K r0 r1 r2 r3 r4 s0 s1 s2 s3 s4 hne_
    refine pure_ (i := 6) (N := (some 3)) (v := ?_) (a' := ?_) #[true, true, true, true, true, true, true, false] rfl rfl (by kernel_rfl) (fun _ _ _ h => h) (Or.inl ⟨by rfl, ?_⟩) ?_ ?_
    rotate_left
    · intro w'
      go_simp
      with_reducible rfl
    rotate_left
    · simp only [Act.put, List.setIfInBounds_toArray, List.set_cons_zero, List.set_cons_succ, i64_w, i32_w]
      rfl
    refine pure_ (i := 7) (N := (some 4)) (v := ?_) (a' := ?_) #[true, true, true, true, true, true, true, true] rfl rfl (by kernel_rfl) (fun _ _ _ h => h) (Or.inl ⟨by rfl, ?_⟩) ?_ ?_
    rotate_left
    · intro w'
      go_simp
      with_reducible rfl
    rotate_left
    · simp only [Act.put, List.setIfInBounds_toArray, List.set_cons_zero, List.set_cons_succ, i64_w, i32_w]
      rfl
    refine done_ (by kernel_rfl) ?_
    try go_wp2
    refine bodyPost_ret (results_ctt rfl _ _ g2 23 (T5 0 0 0 0 0) (0, 0) _ rfl FD.out.1 Try.underlying23 rfl (by kernel_rfl)) rfl ?_
    exact ⟨by rw [hR.out, if_pos c1]; rfl, FD.out.2⟩
  · have d1 : decide (65536 < (V p.at_ p.en)) = false := decide_eq_false c1
    have C1 := Aside0.mk c1
    clear c1
    go_upto_region 15 with fail
    by_cases c2 : (V q.at_ q.en) > 65536
    · have d2 : decide (65536 < (V q.at_ q.en)) = true := decide_eq_true c2
      go_upto_region 16 with fail
      refine start_ (n := 8) (S := fun w' => w'.cell? ⟨gp, 6, none⟩ = some (.int .i64 q.at_)) (ds := []) #[false, false, false, false, false, false, false, false] (by kernel_rfl) rfl rfl y0 (fun hHeld => ?_)
      (try clear tc0 tc1 tc2 tc3 tc4); (try clear x0 x1 x2 x3 x4 x5); (try clear y0 y1 y2 y3 y4 y5)
      replace F := Aside0.mk F.out.drew
      generalize wh.drew = wx16 at F hHeld ⊢
      refine pure_ (i := 0) (N := (some 76)) (v := ?_) (a' := ?_) #[true, false, false, false, false, false, false, false] rfl rfl (by kernel_rfl) (fun _ _ _ h => h) (Or.inl ⟨by rfl, ?_⟩) ?_ ?_
      rotate_left
      · intro w'
        go_simp
        with_reducible rfl
      rotate_left
      · simp only [Act.put, List.setIfInBounds_toArray, List.set_cons_zero, List.set_cons_succ, i64_w, i32_w]
        rfl
      refine pure_ (i := 1) (N := (some 77)) (v := ?_) (a' := ?_) #[true, true, false, false, false, false, false, false] rfl rfl (by kernel_rfl) (fun _ _ _ h => h) (Or.inl ⟨by rfl, ?_⟩) ?_ ?_
      rotate_left
      · intro w'
        go_simp
        with_reducible rfl
      rotate_left
      · simp only [Act.put, List.setIfInBounds_toArray, List.set_cons_zero, List.set_cons_succ, i64_w, i32_w]
        rfl
      refine pure_ (i := 2) (N := (some 78)) (v := ?_) (a' := ?_) #[true, true, true, false, false, false, false, false] rfl rfl (by kernel_rfl) (fun _ _ _ h => h) (Or.inl ⟨by rfl, ?_⟩) ?_ ?_
      rotate_left
      · intro w'
        go_simp
        with_reducible rfl
      rotate_left
      · simp only [Act.put, List.setIfInBounds_toArray, List.set_cons_zero, List.set_cons_succ, i64_w, i32_w]
        rfl
      refine pure_ (i := 3) (N := (some 79)) (v := ?_) (a' := ?_) #[true, true, true, true, false, false, false, false] rfl rfl (by kernel_rfl) (fun _ _ _ h => h) (Or.inl ⟨by rfl, ?_⟩) ?_ ?_
      rotate_left
      · intro w'
        go_simp
        with_reducible rfl
      rotate_left
      · simp only [Act.put, List.setIfInBounds_toArray, List.set_cons_zero, List.set_cons_succ, i64_w, i32_w]
        rfl
      refine take_ (i := 4) (N := (some 80)) (v := ?_) (a' := ?_) #[true, true, true, true, true, false, false, false] rfl rfl (by kernel_rfl) (fun _ _ _ h => h) (Or.inl ⟨by rfl, ?_⟩) hHeld ?_ ?_
      rotate_left
      · rintro w' s0
        go_simp
        with_reducible rfl
      rotate_left
      · simp only [Act.put, List.setIfInBounds_toArray, List.set_cons_zero, List.set_cons_succ, i64_w, i32_w]
        rfl
      refine one_ (i := 5) (N := none) #[true, true, true, true, true, true, false, false] rfl rfl (by kernel_rfl) (by decide) (fun K hK => ?_)
      obtain ⟨r0, r1, r2, r3, r4, _⟩ := froz F.out.h2
      obtain ⟨s0, s1, s2, s3, s4⟩ := t5_cells F.out.h2
      have hD := F.out.done (a' := 0) (b' := 0) (c' := 0) (d' := 0) (e' := 0)
      have FD := Aside0.mk hD
      clear hD
      refine skip_ (w1 := ?_) (by rfl) rfl ?_ ?_
      rotate_left
      · go_simp
        rfl
      have hne_ := F.out.ne
      refine hK.out _ _ (cell_far hne_ (cell_far hne_ (cell_far hne_ (cell_far hne_ (cell_far hne_ hHeld))))) (fun hHeld => ?_)
      clear hK K r0 r1 r2 r3 r4 s0 s1 s2 s3 s4 hne_
      refine pure_ (i := 6) (N := (some 3)) (v := ?_) (a' := ?_) #[true, true, true, true, true, true, true, false] rfl rfl (by kernel_rfl) (fun _ _ _ h => h) (Or.inl ⟨by rfl, ?_⟩) ?_ ?_
      rotate_left
      · intro w'
        go_simp
        with_reducible rfl
      rotate_left
      · simp only [Act.put, List.setIfInBounds_toArray, List.set_cons_zero, List.set_cons_succ, i64_w, i32_w]
        rfl
      refine pure_ (i := 7) (N := (some 4)) (v := ?_) (a' := ?_) #[true, true, true, true, true, true, true, true] rfl rfl (by kernel_rfl) (fun _ _ _ h => h) (Or.inl ⟨by rfl, ?_⟩) ?_ ?_
      rotate_left
      · intro w'
        go_simp
        with_reducible rfl
      rotate_left
      · simp only [Act.put, List.setIfInBounds_toArray, List.set_cons_zero, List.set_cons_succ, i64_w, i32_w]
        rfl
      refine done_ (by kernel_rfl) ?_
      try go_wp2
      refine bodyPost_ret (results_ctt rfl _ _ g2 23 (T5 0 0 0 0 0) (0, 0) _ rfl FD.out.1 Try.underlying23 rfl (by kernel_rfl)) rfl ?_
      exact ⟨by rw [hR.out, if_neg (show ¬ (V p.at_ p.en) > 65536 by have := C1.out; omega), if_pos c2]; rfl, FD.out.2⟩
    · have d2 : decide (65536 < (V q.at_ q.en)) = false := decide_eq_false c2
      have C2 := Aside0.mk c2
      clear c2
      go_upto_region 17 with fail
      go_cut [87] (fun vs wc => vs = .bool (decide (3 ≤ kd ∧ (V p.at_ p.en) = 0)) ∧ wh = wc)
      case first =>
        by_cases k_ : (3 : Int) ≤ kd
        · have k1 : decide ((3 : Int) ≤ kd) = true := decide_eq_true k_
          by_cases z_ : (V p.at_ p.en) = 0
          · have k2 : ((V p.at_ p.en) == 0) = true := by rw [z_]; rfl
            clear z_
            go_wp2
            go_meet
            exact ⟨congrArg Value.bool (decide_eq_true ⟨k_, by simpa using k2⟩).symm, rfl⟩
          · have k2 : ((V p.at_ p.en) == 0) = false := by simpa using z_
            go_wp2
            go_meet
            exact ⟨congrArg Value.bool (decide_eq_false (fun h => z_ h.2)).symm, rfl⟩
        · have k1 : decide ((3 : Int) ≤ kd) = false := decide_eq_false k_
          go_wp2
          go_meet
          exact ⟨congrArg Value.bool (decide_eq_false (fun h => absurd h.1 (by omega))).symm, rfl⟩
      case rest =>
        obtain ⟨hv_, rfl⟩ := hcut
        by_cases c3 : (3 ≤ kd ∧ (V p.at_ p.en) = 0)
        · replace hv_ := hv_.trans (congrArg Value.bool (decide_eq_true c3))
          subst hv_
          replace c3 := Aside0.mk c3
          go_upto_region 18 with fail
          refine start_ (n := 8) (S := fun w' => w'.cell? ⟨gp, 0, none⟩ = some (.int .i64 p.at_)) (ds := []) #[false, false, false, false, false, false, false, false] (by kernel_rfl) rfl rfl x0 (fun hHeld => ?_)
          (try clear tc0 tc1 tc2 tc3 tc4); (try clear x0 x1 x2 x3 x4 x5); (try clear y0 y1 y2 y3 y4 y5)
          replace F := Aside0.mk F.out.drew
          generalize wh.drew = wx18 at F hHeld ⊢
          refine pure_ (i := 0) (N := (some 88)) (v := ?_) (a' := ?_) #[true, false, false, false, false, false, false, false] rfl rfl (by kernel_rfl) (fun _ _ _ h => h) (Or.inl ⟨by rfl, ?_⟩) ?_ ?_
          rotate_left
          · intro w'
            go_simp
            with_reducible rfl
          rotate_left
          · simp only [Act.put, List.setIfInBounds_toArray, List.set_cons_zero, List.set_cons_succ, i64_w, i32_w]
            rfl
          refine pure_ (i := 1) (N := (some 89)) (v := ?_) (a' := ?_) #[true, true, false, false, false, false, false, false] rfl rfl (by kernel_rfl) (fun _ _ _ h => h) (Or.inl ⟨by rfl, ?_⟩) ?_ ?_
          rotate_left
          · intro w'
            go_simp
            with_reducible rfl
          rotate_left
          · simp only [Act.put, List.setIfInBounds_toArray, List.set_cons_zero, List.set_cons_succ, i64_w, i32_w]
            rfl
          refine pure_ (i := 2) (N := (some 90)) (v := ?_) (a' := ?_) #[true, true, true, false, false, false, false, false] rfl rfl (by kernel_rfl) (fun _ _ _ h => h) (Or.inl ⟨by rfl, ?_⟩) ?_ ?_
          rotate_left
          · intro w'
            go_simp
            with_reducible rfl
          rotate_left
          · simp only [Act.put, List.setIfInBounds_toArray, List.set_cons_zero, List.set_cons_succ, i64_w, i32_w]
            rfl
          refine pure_ (i := 3) (N := (some 91)) (v := ?_) (a' := ?_) #[true, true, true, true, false, false, false, false] rfl rfl (by kernel_rfl) (fun _ _ _ h => h) (Or.inl ⟨by rfl, ?_⟩) ?_ ?_
          rotate_left
          · intro w'
            go_simp
            with_reducible rfl
          rotate_left
          · simp only [Act.put, List.setIfInBounds_toArray, List.set_cons_zero, List.set_cons_succ, i64_w, i32_w]
            rfl
          refine take_ (i := 4) (N := (some 92)) (v := ?_) (a' := ?_) #[true, true, true, true, true, false, false, false] rfl rfl (by kernel_rfl) (fun _ _ _ h => h) (Or.inl ⟨by rfl, ?_⟩) hHeld ?_ ?_
          rotate_left
          · rintro w' s0
            go_simp
            with_reducible rfl
          rotate_left
          · simp only [Act.put, List.setIfInBounds_toArray, List.set_cons_zero, List.set_cons_succ, i64_w, i32_w]
            rfl
          refine one_ (i := 5) (N := none) #[true, true, true, true, true, true, false, false] rfl rfl (by kernel_rfl) (by decide) (fun K hK => ?_)
          obtain ⟨r0, r1, r2, r3, r4, _⟩ := froz F.out.h2
          obtain ⟨s0, s1, s2, s3, s4⟩ := t5_cells F.out.h2
          have hD := F.out.done (a' := 0) (b' := 0) (c' := 0) (d' := 0) (e' := 0)
          have FD := Aside0.mk hD
          clear hD
          refine skip_ (w1 := ?_) (by rfl) rfl ?_ ?_
          rotate_left
          · go_simp
            rfl
          have hne_ := F.out.ne
          refine hK.out _ _ (cell_far hne_ (cell_far hne_ (cell_far hne_ (cell_far hne_ (cell_far hne_ hHeld))))) (fun hHeld => ?_)
          clear hK K r0 r1 r2 r3 r4 s0 s1 s2 s3 s4 hne_
          refine pure_ (i := 6) (N := (some 3)) (v := ?_) (a' := ?_) #[true, true, true, true, true, true, true, false] rfl rfl (by kernel_rfl) (fun _ _ _ h => h) (Or.inl ⟨by rfl, ?_⟩) ?_ ?_
          rotate_left
          · intro w'
            go_simp
            with_reducible rfl
          rotate_left
          · simp only [Act.put, List.setIfInBounds_toArray, List.set_cons_zero, List.set_cons_succ, i64_w, i32_w]
            rfl
          refine pure_ (i := 7) (N := (some 4)) (v := ?_) (a' := ?_) #[true, true, true, true, true, true, true, true] rfl rfl (by kernel_rfl) (fun _ _ _ h => h) (Or.inl ⟨by rfl, ?_⟩) ?_ ?_
          rotate_left
          · intro w'
            go_simp
            with_reducible rfl
          rotate_left
          · simp only [Act.put, List.setIfInBounds_toArray, List.set_cons_zero, List.set_cons_succ, i64_w, i32_w]
            rfl
          refine done_ (by kernel_rfl) ?_
          try go_wp2
          refine bodyPost_ret (results_ctt rfl _ _ g2 23 (T5 0 0 0 0 0) (0, 0) _ rfl FD.out.1 Try.underlying23 rfl (by kernel_rfl)) rfl ?_
          exact ⟨by rw [hR.out, if_neg (show ¬ (V p.at_ p.en) > 65536 by have := C1.out; omega), if_neg (show ¬ (V q.at_ q.en) > 65536 by have := C2.out; omega), if_pos c3.out]; rfl, FD.out.2⟩
        · replace hv_ := hv_.trans (congrArg Value.bool (decide_eq_false c3))
          subst hv_
          have C3 := Aside0.mk c3
          clear c3
          go_upto_region 19 with fail
          go_cut [99] (fun vs wc => vs = .bool (decide (3 ≤ kd ∧ (V q.at_ q.en) = 0)) ∧ wh = wc)
          case first =>
            by_cases k_ : (3 : Int) ≤ kd
            · have k1 : decide ((3 : Int) ≤ kd) = true := decide_eq_true k_
              by_cases z_ : (V q.at_ q.en) = 0
              · have k2 : ((V q.at_ q.en) == 0) = true := by rw [z_]; rfl
                clear z_
                go_wp2
                go_meet
                exact ⟨congrArg Value.bool (decide_eq_true ⟨k_, by simpa using k2⟩).symm, rfl⟩
              · have k2 : ((V q.at_ q.en) == 0) = false := by simpa using z_
                go_wp2
                go_meet
                exact ⟨congrArg Value.bool (decide_eq_false (fun h => z_ h.2)).symm, rfl⟩
            · have k1 : decide ((3 : Int) ≤ kd) = false := decide_eq_false k_
              go_wp2
              go_meet
              exact ⟨congrArg Value.bool (decide_eq_false (fun h => absurd h.1 (by omega))).symm, rfl⟩
          case rest =>
            obtain ⟨hv_, rfl⟩ := hcut
            by_cases c4 : (3 ≤ kd ∧ (V q.at_ q.en) = 0)
            · replace hv_ := hv_.trans (congrArg Value.bool (decide_eq_true c4))
              subst hv_
              replace c4 := Aside0.mk c4
              go_upto_region 20 with fail
              refine start_ (n := 8) (S := fun w' => w'.cell? ⟨gp, 6, none⟩ = some (.int .i64 q.at_)) (ds := []) #[false, false, false, false, false, false, false, false] (by kernel_rfl) rfl rfl y0 (fun hHeld => ?_)
              (try clear tc0 tc1 tc2 tc3 tc4); (try clear x0 x1 x2 x3 x4 x5); (try clear y0 y1 y2 y3 y4 y5)
              replace F := Aside0.mk F.out.drew
              generalize wh.drew = wx20 at F hHeld ⊢
              refine pure_ (i := 0) (N := (some 100)) (v := ?_) (a' := ?_) #[true, false, false, false, false, false, false, false] rfl rfl (by kernel_rfl) (fun _ _ _ h => h) (Or.inl ⟨by rfl, ?_⟩) ?_ ?_
              rotate_left
              · intro w'
                go_simp
                with_reducible rfl
              rotate_left
              · simp only [Act.put, List.setIfInBounds_toArray, List.set_cons_zero, List.set_cons_succ, i64_w, i32_w]
                rfl
              refine pure_ (i := 1) (N := (some 101)) (v := ?_) (a' := ?_) #[true, true, false, false, false, false, false, false] rfl rfl (by kernel_rfl) (fun _ _ _ h => h) (Or.inl ⟨by rfl, ?_⟩) ?_ ?_
              rotate_left
              · intro w'
                go_simp
                with_reducible rfl
              rotate_left
              · simp only [Act.put, List.setIfInBounds_toArray, List.set_cons_zero, List.set_cons_succ, i64_w, i32_w]
                rfl
              refine pure_ (i := 2) (N := (some 102)) (v := ?_) (a' := ?_) #[true, true, true, false, false, false, false, false] rfl rfl (by kernel_rfl) (fun _ _ _ h => h) (Or.inl ⟨by rfl, ?_⟩) ?_ ?_
              rotate_left
              · intro w'
                go_simp
                with_reducible rfl
              rotate_left
              · simp only [Act.put, List.setIfInBounds_toArray, List.set_cons_zero, List.set_cons_succ, i64_w, i32_w]
                rfl
              refine pure_ (i := 3) (N := (some 103)) (v := ?_) (a' := ?_) #[true, true, true, true, false, false, false, false] rfl rfl (by kernel_rfl) (fun _ _ _ h => h) (Or.inl ⟨by rfl, ?_⟩) ?_ ?_
              rotate_left
              · intro w'
                go_simp
                with_reducible rfl
              rotate_left
              · simp only [Act.put, List.setIfInBounds_toArray, List.set_cons_zero, List.set_cons_succ, i64_w, i32_w]
                rfl
              refine take_ (i := 4) (N := (some 104)) (v := ?_) (a' := ?_) #[true, true, true, true, true, false, false, false] rfl rfl (by kernel_rfl) (fun _ _ _ h => h) (Or.inl ⟨by rfl, ?_⟩) hHeld ?_ ?_
              rotate_left
              · rintro w' s0
                go_simp
                with_reducible rfl
              rotate_left
              · simp only [Act.put, List.setIfInBounds_toArray, List.set_cons_zero, List.set_cons_succ, i64_w, i32_w]
                rfl
              refine one_ (i := 5) (N := none) #[true, true, true, true, true, true, false, false] rfl rfl (by kernel_rfl) (by decide) (fun K hK => ?_)
              obtain ⟨r0, r1, r2, r3, r4, _⟩ := froz F.out.h2
              obtain ⟨s0, s1, s2, s3, s4⟩ := t5_cells F.out.h2
              have hD := F.out.done (a' := 0) (b' := 0) (c' := 0) (d' := 0) (e' := 0)
              have FD := Aside0.mk hD
              clear hD
              refine skip_ (w1 := ?_) (by rfl) rfl ?_ ?_
              rotate_left
              · go_simp
                rfl
              have hne_ := F.out.ne
              refine hK.out _ _ (cell_far hne_ (cell_far hne_ (cell_far hne_ (cell_far hne_ (cell_far hne_ hHeld))))) (fun hHeld => ?_)
              clear hK K r0 r1 r2 r3 r4 s0 s1 s2 s3 s4 hne_
              refine pure_ (i := 6) (N := (some 3)) (v := ?_) (a' := ?_) #[true, true, true, true, true, true, true, false] rfl rfl (by kernel_rfl) (fun _ _ _ h => h) (Or.inl ⟨by rfl, ?_⟩) ?_ ?_
              rotate_left
              · intro w'
                go_simp
                with_reducible rfl
              rotate_left
              · simp only [Act.put, List.setIfInBounds_toArray, List.set_cons_zero, List.set_cons_succ, i64_w, i32_w]
                rfl
              refine pure_ (i := 7) (N := (some 4)) (v := ?_) (a' := ?_) #[true, true, true, true, true, true, true, true] rfl rfl (by kernel_rfl) (fun _ _ _ h => h) (Or.inl ⟨by rfl, ?_⟩) ?_ ?_
              rotate_left
              · intro w'
                go_simp
                with_reducible rfl
              rotate_left
              · simp only [Act.put, List.setIfInBounds_toArray, List.set_cons_zero, List.set_cons_succ, i64_w, i32_w]
                rfl
              refine done_ (by kernel_rfl) ?_
              try go_wp2
              refine bodyPost_ret (results_ctt rfl _ _ g2 23 (T5 0 0 0 0 0) (0, 0) _ rfl FD.out.1 Try.underlying23 rfl (by kernel_rfl)) rfl ?_
              exact ⟨by rw [hR.out, if_neg (show ¬ (V p.at_ p.en) > 65536 by have := C1.out; omega), if_neg (show ¬ (V q.at_ q.en) > 65536 by have := C2.out; omega), if_neg C3.out, if_pos c4.out]; rfl, FD.out.2⟩
            · replace hv_ := hv_.trans (congrArg Value.bool (decide_eq_false c4))
              subst hv_
              have C4 := Aside0.mk c4
              clear c4
              have HT := Aside0.mk (ht.out (by have := C1.out; omega) (by have := C2.out; omega) C3.out C4.out)
              cases tb with
              | true =>
                go_wp2_with (first | (go_at_call 32; (refine (vivariumref04_twist.calls kt s kd (some ⟨gp, 0, none⟩) pc [toR p, toR q] ta true _ F.out.inn.1 F.out.inn.2 HT.out).mono ?_); rintro en_ wj ⟨rfl, nd, rfl⟩; (try clear tc0 tc1 tc2 tc3 tc4); (try clear x0 x1 x2 x3 x4 x5); (try clear y0 y1 y2 y3 y4 y5); replace F := Aside0.mk (F.out.drewN nd); generalize World.drewN _ nd = wj at F ⊢; obtain ⟨tc0, tc1, tc2, tc3, tc4⟩ := t5_cells F.out.h7; obtain ⟨x0, x1, x2, x3, x4, x5⟩ := F.out.part 0 rfl; obtain ⟨y0, y1, y2, y3, y4, y5⟩ := F.out.part 1 rfl; simp only [toR, Nat.zero_mul, Nat.zero_add, Nat.one_mul, Nat.reduceAdd] at x0 x1 x2 x3 x4 x5 y0 y1 y2 y3 y4 y5) | ((with_reducible refine gate_store (t := 23) (p := 2) (v := .tmp 113) rfl ?_); obtain ⟨r0, r1, r2, r3, r4, _⟩ := froz F.out.h2; obtain ⟨s0, s1, s2, s3, s4⟩ := t5_cells F.out.h2; refine store_event (w1 := ?u1wwwz) ?u1hgwz rfl rfl ?u1hrwz ?_; (case u1hgwz => rfl); (case u1hrwz => go_simp; rfl); intro wz hw; clear r0 r1 r2 r3 r4 s0 s1 s2 s3 s4; (try clear tc0 tc1 tc2 tc3 tc4); (try clear x0 x1 x2 x3 x4 x5); (try clear y0 y1 y2 y3 y4 y5); have hD := F.out.done (a' := 0) (b' := 0) (c' := 0) (d' := 0) (e' := 0); rw [← hw] at hD; have FD := Aside0.mk hD; clear hD hw F))
                refine bodyPost_ret (results_ctt rfl _ _ g2 23 (T5 0 0 0 0 0) (0, 0) _ rfl FD.out.1 Try.underlying23 rfl (by kernel_rfl)) rfl ?_
                exact ⟨by rw [hR.out, if_neg (show ¬ (V p.at_ p.en) > 65536 by have := C1.out; omega), if_neg (show ¬ (V q.at_ q.en) > 65536 by have := C2.out; omega), if_neg C3.out, if_neg C4.out]; rfl, FD.out.2⟩
              | false =>
                have HS := Aside0.mk (hsf.out (by have := C1.out; omega) (by have := C2.out; omega) C3.out C4.out rfl)
                cases sb with
                | true =>
                  go_wp2_with (first | (go_at_call 32; (refine (vivariumref04_twist.calls kt s kd (some ⟨gp, 0, none⟩) pc [toR p, toR q] ta false _ F.out.inn.1 F.out.inn.2 HT.out).mono ?_); rintro en_ wj ⟨rfl, nd, rfl⟩; (try clear tc0 tc1 tc2 tc3 tc4); (try clear x0 x1 x2 x3 x4 x5); (try clear y0 y1 y2 y3 y4 y5); replace F := Aside0.mk (F.out.drewN nd); generalize World.drewN _ nd = wj at F ⊢; obtain ⟨tc0, tc1, tc2, tc3, tc4⟩ := t5_cells F.out.h7; obtain ⟨x0, x1, x2, x3, x4, x5⟩ := F.out.part 0 rfl; obtain ⟨y0, y1, y2, y3, y4, y5⟩ := F.out.part 1 rfl; simp only [toR, Nat.zero_mul, Nat.zero_add, Nat.one_mul, Nat.reduceAdd] at x0 x1 x2 x3 x4 x5 y0 y1 y2 y3 y4 y5) | (go_at_call 33; (refine (vivariumref04_shift.calls ks s kd (some ⟨gp, 0, none⟩) pc [toR p, toR q] (V p.at_ p.en) (V q.at_ q.en) sa true _ F.out.inn.1 F.out.inn.2 HS.out).mono ?_); rintro en_ wk ⟨rfl, hb⟩; (try clear tc0 tc1 tc2 tc3 tc4); (try clear x0 x1 x2 x3 x4 x5); (try clear y0 y1 y2 y3 y4 y5); replace F := Aside0.mk (F.out.on hb); clear hb; obtain ⟨tc0, tc1, tc2, tc3, tc4⟩ := t5_cells F.out.h7; obtain ⟨x0, x1, x2, x3, x4, x5⟩ := F.out.part 0 rfl; obtain ⟨y0, y1, y2, y3, y4, y5⟩ := F.out.part 1 rfl; simp only [toR, Nat.zero_mul, Nat.zero_add, Nat.one_mul, Nat.reduceAdd] at x0 x1 x2 x3 x4 x5 y0 y1 y2 y3 y4 y5) | ((with_reducible refine gate_store (t := 23) (p := 2) (v := .tmp 127) rfl ?_); obtain ⟨r0, r1, r2, r3, r4, _⟩ := froz F.out.h2; obtain ⟨s0, s1, s2, s3, s4⟩ := t5_cells F.out.h2; refine store_event (w1 := ?u2wwwz) ?u2hgwz rfl rfl ?u2hrwz ?_; (case u2hgwz => rfl); (case u2hrwz => go_simp; rfl); intro wz hw; clear r0 r1 r2 r3 r4 s0 s1 s2 s3 s4; (try clear tc0 tc1 tc2 tc3 tc4); (try clear x0 x1 x2 x3 x4 x5); (try clear y0 y1 y2 y3 y4 y5); have hD := F.out.done (a' := 0) (b' := 0) (c' := 0) (d' := 0) (e' := 0); rw [← hw] at hD; have FD := Aside0.mk hD; clear hD hw F))
                  refine bodyPost_ret (results_ctt rfl _ _ g2 23 (T5 0 0 0 0 0) (0, 0) _ rfl FD.out.1 Try.underlying23 rfl (by kernel_rfl)) rfl ?_
                  exact ⟨by rw [hR.out, if_neg (show ¬ (V p.at_ p.en) > 65536 by have := C1.out; omega), if_neg (show ¬ (V q.at_ q.en) > 65536 by have := C2.out; omega), if_neg C3.out, if_neg C4.out]; rfl, FD.out.2⟩
                | false =>
                  have HVR := Aside0.mk (hVr.out (by have := C1.out; omega) (by have := C2.out; omega) C3.out C4.out rfl rfl)
                  go_wp2_with (first | (go_at_call 32; (refine (vivariumref04_twist.calls kt s kd (some ⟨gp, 0, none⟩) pc [toR p, toR q] ta false _ F.out.inn.1 F.out.inn.2 HT.out).mono ?_); rintro en_ wj ⟨rfl, nd, rfl⟩; (try clear tc0 tc1 tc2 tc3 tc4); (try clear x0 x1 x2 x3 x4 x5); (try clear y0 y1 y2 y3 y4 y5); replace F := Aside0.mk (F.out.drewN nd); generalize World.drewN _ nd = wj at F ⊢; obtain ⟨tc0, tc1, tc2, tc3, tc4⟩ := t5_cells F.out.h7; obtain ⟨x0, x1, x2, x3, x4, x5⟩ := F.out.part 0 rfl; obtain ⟨y0, y1, y2, y3, y4, y5⟩ := F.out.part 1 rfl; simp only [toR, Nat.zero_mul, Nat.zero_add, Nat.one_mul, Nat.reduceAdd] at x0 x1 x2 x3 x4 x5 y0 y1 y2 y3 y4 y5) | (go_at_call 33; (refine (vivariumref04_shift.calls ks s kd (some ⟨gp, 0, none⟩) pc [toR p, toR q] (V p.at_ p.en) (V q.at_ q.en) sa false _ F.out.inn.1 F.out.inn.2 HS.out).mono ?_); rintro en_ wk ⟨rfl, hb⟩; (try clear tc0 tc1 tc2 tc3 tc4); (try clear x0 x1 x2 x3 x4 x5); (try clear y0 y1 y2 y3 y4 y5); replace F := Aside0.mk (F.out.on hb); clear hb; obtain ⟨tc0, tc1, tc2, tc3, tc4⟩ := t5_cells F.out.h7; obtain ⟨x0, x1, x2, x3, x4, x5⟩ := F.out.part 0 rfl; obtain ⟨y0, y1, y2, y3, y4, y5⟩ := F.out.part 1 rfl; simp only [toR, Nat.zero_mul, Nat.zero_add, Nat.one_mul, Nat.reduceAdd] at x0 x1 x2 x3 x4 x5 y0 y1 y2 y3 y4 y5))
                  clear tc0 tc1 tc2 tc3 tc4 x0 x1 x2 x3 x4 x5 y0 y1 y2 y3 y4 y5
                  go_loopg [11] 3 (fun kq v11 w' => ∃ (i : Nat) (tu sh : Int), v11 = .int .i64 (i : Int) ∧ Aside0 (kq + i = 3 ∧ i ≤ 2) ∧ Aside0 (turnsV V s ([p, q].drop i) (i : Int) (tu, sh) = turnsV V s [p, q] 0 (0, 0)) ∧ Aside0 (K w w' g2 g7 gp pc [toR p, toR q] kd (V p.at_ p.en) (V q.at_ q.en) tu sh))
                  case atStart => exact ⟨0, 0, 0, rfl, ⟨by omega, by omega⟩, ⟨rfl⟩, F⟩
                  case round =>
                    obtain ⟨i, tu, sh, rfl, hk, ht, F⟩ := hrel
                    have hk1 := hk.out
                    have hi_ : i = 0 ∨ i = 1 ∨ i = 2 := by omega
                    clear hk1
                    rcases hi_ with rfl | rfl | rfl
                    · by_cases cG : p.sign < 0
                      · by_cases cS : p.star < 0
                        · have cSb : decide ((0 : Int) ≤ p.star) = false := decide_eq_false (by omega)
                          have cGb : decide ((0 : Int) ≤ p.sign) = false := decide_eq_false (by omega)
                          have hst : (if p.star < 0 ∧ p.sign < 0 then (tu, sh) else (1 + ((0 : Nat) : Int), if 0 ≤ p.sign then (if bt s p.sign = 45 then -(V p.fr p.to_) else (V p.fr p.to_)) else sh)) = ((tu, sh) : Int × Int) := by rw [if_pos ⟨cS, cG⟩]
                          have N12 := Aside0.mk (Nat.ne_of_lt (blk_lt F.out.h7))
                          obtain ⟨tc0, tc1, tc2, tc3, tc4⟩ := t5_cells F.out.h7
                          obtain ⟨x0, x1, x2, x3, x4, x5⟩ := F.out.part 0 rfl
                          obtain ⟨y0, y1, y2, y3, y4, y5⟩ := F.out.part 1 rfl
                          simp only [toR, Nat.zero_mul, Nat.zero_add, Nat.one_mul, Nat.reduceAdd] at x0 x1 x2 x3 x4 x5 y0 y1 y2 y3 y4 y5
                          go_wp2
                          go_roundg 2
                          case measure => have := hk.out; omega
                          case rel => exact ⟨1, tu, sh, by go_num, ⟨by omega, by omega⟩, ⟨(congrArg (turnsV V s ([p, q].drop 1) ((1 : Nat) : Int)) hst).symm.trans ht.out⟩, ⟨F.out.on (below_alloc (Below.refl _ _) _)⟩⟩
                        · have cSb : decide ((0 : Int) ≤ p.star) = true := decide_eq_true (by omega)
                          have cGb : decide ((0 : Int) ≤ p.sign) = false := decide_eq_false (by omega)
                          have hst : (if p.star < 0 ∧ p.sign < 0 then (tu, sh) else (1 + ((0 : Nat) : Int), if 0 ≤ p.sign then (if bt s p.sign = 45 then -(V p.fr p.to_) else (V p.fr p.to_)) else sh)) = ((1, sh) : Int × Int) := by rw [if_neg (fun h => cS h.1), if_neg (by omega)]; rfl
                          have N12 := Aside0.mk (Nat.ne_of_lt (blk_lt F.out.h7))
                          obtain ⟨tc0, tc1, tc2, tc3, tc4⟩ := t5_cells F.out.h7
                          obtain ⟨x0, x1, x2, x3, x4, x5⟩ := F.out.part 0 rfl
                          obtain ⟨y0, y1, y2, y3, y4, y5⟩ := F.out.part 1 rfl
                          simp only [toR, Nat.zero_mul, Nat.zero_add, Nat.one_mul, Nat.reduceAdd] at x0 x1 x2 x3 x4 x5 y0 y1 y2 y3 y4 y5
                          go_wp2_with (first | ((with_reducible refine gate_store (t := 5) (p := 150) (v := .tmp 149) rfl ?_); have hb_ := below_alloc (Below.refl wr.heap.size wr) (.cells #[.int .i64 (p.at_ : Int), .int .i64 (p.en : Int), .int .i64 p.star, .int .i64 p.sign, .int .i64 (p.fr : Int), .int .i64 (p.to_ : Int)] 66); have h12_ := blk_new wr (.cells #[.int .i64 (p.at_ : Int), .int .i64 (p.en : Int), .int .i64 p.star, .int .i64 p.sign, .int .i64 (p.fr : Int), .int .i64 (p.to_ : Int)] 66); generalize wr.alloc (.cells #[.int .i64 (p.at_ : Int), .int .i64 (p.en : Int), .int .i64 p.star, .int .i64 p.sign, .int .i64 (p.fr : Int), .int .i64 (p.to_ : Int)] 66) = wx at hb_ h12_ ⊢; (try clear tc0 tc1 tc2 tc3 tc4); (try clear x0 x1 x2 x3 x4 x5); (try clear y0 y1 y2 y3 y4 y5); replace F := Aside0.mk (F.out.on hb_); obtain ⟨tc0, tc1, tc2, tc3, tc4⟩ := t5_cells F.out.h7; obtain ⟨x0, x1, x2, x3, x4, x5⟩ := F.out.part 0 rfl; obtain ⟨y0, y1, y2, y3, y4, y5⟩ := F.out.part 1 rfl; simp only [toR, Nat.zero_mul, Nat.zero_add, Nat.one_mul, Nat.reduceAdd] at x0 x1 x2 x3 x4 x5 y0 y1 y2 y3 y4 y5; obtain ⟨r0, r1, r2, r3, r4, _⟩ := froz F.out.h7; refine store_event (w1 := ?wwL2wm) ?hgL2wm rfl rfl ?hrL2wm ?_; (case hgL2wm => rfl); (case hrL2wm => go_simp; rfl); intro wm hw; clear r0 r1 r2 r3 r4; (try clear tc0 tc1 tc2 tc3 tc4); (try clear x0 x1 x2 x3 x4 x5); (try clear y0 y1 y2 y3 y4 y5); have hF_ : K w wm g2 g7 gp pc [toR p, toR q] kd (V p.at_ p.en) (V q.at_ q.en) 1 sh := (by rw [hw]; exact F.out.set 3 (.int .u8 1) rfl); have h13_ : wm.heap[wr.heap.size]? = some (.cells (P6 p.at_ p.en p.star p.sign p.fr p.to_) 66 (0, 0)) := (by rw [hw]; exact blk_far h12_ (p := ⟨g7, 3, none⟩) (Ne.symm N12.out) _); have H12 := Aside0.mk h13_; replace F := Aside0.mk hF_; clear hF_ hw h12_ h13_ hb_; obtain ⟨tc0, tc1, tc2, tc3, tc4⟩ := t5_cells F.out.h7; obtain ⟨x0, x1, x2, x3, x4, x5⟩ := F.out.part 0 rfl; obtain ⟨y0, y1, y2, y3, y4, y5⟩ := F.out.part 1 rfl; simp only [toR, Nat.zero_mul, Nat.zero_add, Nat.one_mul, Nat.reduceAdd] at x0 x1 x2 x3 x4 x5 y0 y1 y2 y3 y4 y5; obtain ⟨z0, z1, z2, z3, z4, z5⟩ := p6_cells H12.out))
                          go_roundg 2
                          case measure => have := hk.out; omega
                          case rel => exact ⟨1, 1, sh, by go_num, ⟨by omega, by omega⟩, ⟨(congrArg (turnsV V s ([p, q].drop 1) ((1 : Nat) : Int)) hst).symm.trans ht.out⟩, F⟩
                      · obtain ⟨m, hm, hml⟩ := (GP.out.o5).resolve_left cG
                        rw [hm] at cG
                        have cG2 : decide ((0 : Int) ≤ (m : Int)) = true := decide_eq_true (by omega)
                        have m1 : ((m : Int) < (s.size : Int)) = True := eq_true (by omega)
                        have m2 : ((0 : Int) ≤ (m : Int)) = True := eq_true (by omega)
                        have m3 : ∀ h : m < s.size, ((s[m]'h).toNat : Int) = bt s (m : Int) := bt_at s (m : Int)
                        have e1 : (0 : Int) ≤ (p.fr : Int) := by omega
                        have e2 : (p.fr : Int) ≤ (p.to_ : Int) := by have := GP.out.o3; omega
                        have e3 : (0 : Int) ≤ (p.to_ : Int) := by omega
                        have e4 : (p.to_ : Int) ≤ (s.size : Int) := by have := GP.out.o4; omega
                        have HNG := Aside0.mk (show wrap64 (-(V p.fr p.to_)) = -(V p.fr p.to_) by have := HVR.out p.fr p.to_; unfold wrap64; omega)
                        by_cases cM : bt s (m : Int) = 45
                        · have cMb : (bt s (m : Int) == 45) = true := by rw [cM]; rfl
                          have hst : (if p.star < 0 ∧ p.sign < 0 then (tu, sh) else (1 + ((0 : Nat) : Int), if 0 ≤ p.sign then (if bt s p.sign = 45 then -(V p.fr p.to_) else (V p.fr p.to_)) else sh)) = ((1, (-(V p.fr p.to_))) : Int × Int) := by rw [hm, if_neg (fun h => cG h.2), if_pos (by omega), if_pos cM]; rfl
                          by_cases cS : p.star < 0
                          · have cSb : decide ((0 : Int) ≤ p.star) = false := decide_eq_false (by omega)
                            have N12 := Aside0.mk (Nat.ne_of_lt (blk_lt F.out.h7))
                            obtain ⟨tc0, tc1, tc2, tc3, tc4⟩ := t5_cells F.out.h7
                            obtain ⟨x0, x1, x2, x3, x4, x5⟩ := F.out.part 0 rfl
                            obtain ⟨y0, y1, y2, y3, y4, y5⟩ := F.out.part 1 rfl
                            simp only [toR, Nat.zero_mul, Nat.zero_add, Nat.one_mul, Nat.reduceAdd] at x0 x1 x2 x3 x4 x5 y0 y1 y2 y3 y4 y5
                            rw [hm] at x3
                            go_wp2_with (first | ((with_reducible refine gate_store (t := 5) (p := 150) (v := .tmp 149) rfl ?_); have hb_ := below_alloc (Below.refl wr.heap.size wr) (.cells #[.int .i64 (p.at_ : Int), .int .i64 (p.en : Int), .int .i64 p.star, .int .i64 (m : Int), .int .i64 (p.fr : Int), .int .i64 (p.to_ : Int)] 66); have h12_ := blk_new wr (.cells #[.int .i64 (p.at_ : Int), .int .i64 (p.en : Int), .int .i64 p.star, .int .i64 (m : Int), .int .i64 (p.fr : Int), .int .i64 (p.to_ : Int)] 66); generalize wr.alloc (.cells #[.int .i64 (p.at_ : Int), .int .i64 (p.en : Int), .int .i64 p.star, .int .i64 (m : Int), .int .i64 (p.fr : Int), .int .i64 (p.to_ : Int)] 66) = wx at hb_ h12_ ⊢; (try clear tc0 tc1 tc2 tc3 tc4); (try clear x0 x1 x2 x3 x4 x5); (try clear y0 y1 y2 y3 y4 y5); replace F := Aside0.mk (F.out.on hb_); obtain ⟨tc0, tc1, tc2, tc3, tc4⟩ := t5_cells F.out.h7; obtain ⟨x0, x1, x2, x3, x4, x5⟩ := F.out.part 0 rfl; obtain ⟨y0, y1, y2, y3, y4, y5⟩ := F.out.part 1 rfl; simp only [toR, Nat.zero_mul, Nat.zero_add, Nat.one_mul, Nat.reduceAdd] at x0 x1 x2 x3 x4 x5 y0 y1 y2 y3 y4 y5; obtain ⟨r0, r1, r2, r3, r4, _⟩ := froz F.out.h7; refine store_event (w1 := ?wwL3wm) ?hgL3wm rfl rfl ?hrL3wm ?_; (case hgL3wm => rfl); (case hrL3wm => go_simp; rfl); intro wm hw; clear r0 r1 r2 r3 r4; (try clear tc0 tc1 tc2 tc3 tc4); (try clear x0 x1 x2 x3 x4 x5); (try clear y0 y1 y2 y3 y4 y5); have hF_ : K w wm g2 g7 gp pc [toR p, toR q] kd (V p.at_ p.en) (V q.at_ q.en) 1 sh := (by rw [hw]; exact F.out.set 3 (.int .u8 1) rfl); have h13_ : wm.heap[wr.heap.size]? = some (.cells (P6 p.at_ p.en p.star (m : Int) p.fr p.to_) 66 (0, 0)) := (by rw [hw]; exact blk_far h12_ (p := ⟨g7, 3, none⟩) (Ne.symm N12.out) _); have H12 := Aside0.mk h13_; replace F := Aside0.mk hF_; clear hF_ hw h12_ h13_ hb_; obtain ⟨tc0, tc1, tc2, tc3, tc4⟩ := t5_cells F.out.h7; obtain ⟨x0, x1, x2, x3, x4, x5⟩ := F.out.part 0 rfl; obtain ⟨y0, y1, y2, y3, y4, y5⟩ := F.out.part 1 rfl; simp only [toR, Nat.zero_mul, Nat.zero_add, Nat.one_mul, Nat.reduceAdd] at x0 x1 x2 x3 x4 x5 y0 y1 y2 y3 y4 y5; obtain ⟨z0, z1, z2, z3, z4, z5⟩ := p6_cells H12.out) | (go_at_call 31; (with_reducible refine (vivariumref04_worth.calls kw (s.extract p.fr p.to_) (V p.fr p.to_) _ (HV.out _ _ GP.out.o3 GP.out.o4)).mono ?_); rintro en_ wn ⟨rfl, nd, rfl⟩; (try clear tc0 tc1 tc2 tc3 tc4); (try clear x0 x1 x2 x3 x4 x5); (try clear y0 y1 y2 y3 y4 y5); clear z0 z1 z2 z3 z4 z5; replace H12 := Aside0.mk (blk_drewN H12.out nd); replace F := Aside0.mk (F.out.drewN nd); generalize World.drewN _ nd = wn at F H12 ⊢; obtain ⟨tc0, tc1, tc2, tc3, tc4⟩ := t5_cells F.out.h7; obtain ⟨x0, x1, x2, x3, x4, x5⟩ := F.out.part 0 rfl; obtain ⟨y0, y1, y2, y3, y4, y5⟩ := F.out.part 1 rfl; simp only [toR, Nat.zero_mul, Nat.zero_add, Nat.one_mul, Nat.reduceAdd] at x0 x1 x2 x3 x4 x5 y0 y1 y2 y3 y4 y5; obtain ⟨z0, z1, z2, z3, z4, z5⟩ := p6_cells H12.out) | ((with_reducible refine gate_store (t := 3) (p := 161) (v := .tmp 160) rfl ?_); obtain ⟨r0, r1, r2, r3, r4, _⟩ := froz F.out.h7; refine store_event (w1 := ?wwL3wo) ?hgL3wo rfl rfl ?hrL3wo ?_; (case hgL3wo => rfl); (case hrL3wo => go_simp; rfl); intro wo hw; clear r0 r1 r2 r3 r4; (try clear tc0 tc1 tc2 tc3 tc4); (try clear x0 x1 x2 x3 x4 x5); (try clear y0 y1 y2 y3 y4 y5); clear z0 z1 z2 z3 z4 z5; have hF_ : K w wo g2 g7 gp pc [toR p, toR q] kd (V p.at_ p.en) (V q.at_ q.en) 1 (V p.fr p.to_) := (by rw [hw]; exact F.out.set 4 (.int .i64 (V p.fr p.to_)) rfl); have h12_ : wo.heap[wr.heap.size]? = some (.cells (P6 p.at_ p.en p.star (m : Int) p.fr p.to_) 66 (0, 0)) := (by rw [hw]; exact blk_far H12.out (p := ⟨g7, 4, none⟩) (Ne.symm N12.out) _); replace H12 := Aside0.mk h12_; replace F := Aside0.mk hF_; clear hF_ hw h12_; obtain ⟨tc0, tc1, tc2, tc3, tc4⟩ := t5_cells F.out.h7; obtain ⟨x0, x1, x2, x3, x4, x5⟩ := F.out.part 0 rfl; obtain ⟨y0, y1, y2, y3, y4, y5⟩ := F.out.part 1 rfl; simp only [toR, Nat.zero_mul, Nat.zero_add, Nat.one_mul, Nat.reduceAdd] at x0 x1 x2 x3 x4 x5 y0 y1 y2 y3 y4 y5; obtain ⟨z0, z1, z2, z3, z4, z5⟩ := p6_cells H12.out) | ((with_reducible refine gate_store (t := 3) (p := 170) (v := .tmp 169) rfl ?_); obtain ⟨r0, r1, r2, r3, r4, _⟩ := froz F.out.h7; refine store_event (w1 := ?wwL3wq) ?hgL3wq rfl rfl ?hrL3wq ?_; (case hgL3wq => rfl); (case hrL3wq => go_simp; rfl); intro wq hw; clear r0 r1 r2 r3 r4; (try clear tc0 tc1 tc2 tc3 tc4); (try clear x0 x1 x2 x3 x4 x5); (try clear y0 y1 y2 y3 y4 y5); clear z0 z1 z2 z3 z4 z5; have hF_ : K w wq g2 g7 gp pc [toR p, toR q] kd (V p.at_ p.en) (V q.at_ q.en) 1 (-(V p.fr p.to_)) := (by rw [hw]; (try rw [HNG.out]); exact F.out.set 4 (.int .i64 (-(V p.fr p.to_))) rfl); have h12_ : wq.heap[wr.heap.size]? = some (.cells (P6 p.at_ p.en p.star (m : Int) p.fr p.to_) 66 (0, 0)) := (by rw [hw]; exact blk_far H12.out (p := ⟨g7, 4, none⟩) (Ne.symm N12.out) _); replace H12 := Aside0.mk h12_; replace F := Aside0.mk hF_; clear hF_ hw h12_; obtain ⟨tc0, tc1, tc2, tc3, tc4⟩ := t5_cells F.out.h7; obtain ⟨x0, x1, x2, x3, x4, x5⟩ := F.out.part 0 rfl; obtain ⟨y0, y1, y2, y3, y4, y5⟩ := F.out.part 1 rfl; simp only [toR, Nat.zero_mul, Nat.zero_add, Nat.one_mul, Nat.reduceAdd] at x0 x1 x2 x3 x4 x5 y0 y1 y2 y3 y4 y5; obtain ⟨z0, z1, z2, z3, z4, z5⟩ := p6_cells H12.out))
                            go_roundg 2
                            case measure => have := hk.out; omega
                            case rel => exact ⟨1, 1, (-(V p.fr p.to_)), by go_num, ⟨by omega, by omega⟩, ⟨(congrArg (turnsV V s ([p, q].drop 1) ((1 : Nat) : Int)) hst).symm.trans ht.out⟩, F⟩
                          · have cSb : decide ((0 : Int) ≤ p.star) = true := decide_eq_true (by omega)
                            have N12 := Aside0.mk (Nat.ne_of_lt (blk_lt F.out.h7))
                            obtain ⟨tc0, tc1, tc2, tc3, tc4⟩ := t5_cells F.out.h7
                            obtain ⟨x0, x1, x2, x3, x4, x5⟩ := F.out.part 0 rfl
                            obtain ⟨y0, y1, y2, y3, y4, y5⟩ := F.out.part 1 rfl
                            simp only [toR, Nat.zero_mul, Nat.zero_add, Nat.one_mul, Nat.reduceAdd] at x0 x1 x2 x3 x4 x5 y0 y1 y2 y3 y4 y5
                            rw [hm] at x3
                            go_wp2_with (first | ((with_reducible refine gate_store (t := 5) (p := 150) (v := .tmp 149) rfl ?_); have hb_ := below_alloc (Below.refl wr.heap.size wr) (.cells #[.int .i64 (p.at_ : Int), .int .i64 (p.en : Int), .int .i64 p.star, .int .i64 (m : Int), .int .i64 (p.fr : Int), .int .i64 (p.to_ : Int)] 66); have h12_ := blk_new wr (.cells #[.int .i64 (p.at_ : Int), .int .i64 (p.en : Int), .int .i64 p.star, .int .i64 (m : Int), .int .i64 (p.fr : Int), .int .i64 (p.to_ : Int)] 66); generalize wr.alloc (.cells #[.int .i64 (p.at_ : Int), .int .i64 (p.en : Int), .int .i64 p.star, .int .i64 (m : Int), .int .i64 (p.fr : Int), .int .i64 (p.to_ : Int)] 66) = wx at hb_ h12_ ⊢; (try clear tc0 tc1 tc2 tc3 tc4); (try clear x0 x1 x2 x3 x4 x5); (try clear y0 y1 y2 y3 y4 y5); replace F := Aside0.mk (F.out.on hb_); obtain ⟨tc0, tc1, tc2, tc3, tc4⟩ := t5_cells F.out.h7; obtain ⟨x0, x1, x2, x3, x4, x5⟩ := F.out.part 0 rfl; obtain ⟨y0, y1, y2, y3, y4, y5⟩ := F.out.part 1 rfl; simp only [toR, Nat.zero_mul, Nat.zero_add, Nat.one_mul, Nat.reduceAdd] at x0 x1 x2 x3 x4 x5 y0 y1 y2 y3 y4 y5; obtain ⟨r0, r1, r2, r3, r4, _⟩ := froz F.out.h7; refine store_event (w1 := ?wwL4wm) ?hgL4wm rfl rfl ?hrL4wm ?_; (case hgL4wm => rfl); (case hrL4wm => go_simp; rfl); intro wm hw; clear r0 r1 r2 r3 r4; (try clear tc0 tc1 tc2 tc3 tc4); (try clear x0 x1 x2 x3 x4 x5); (try clear y0 y1 y2 y3 y4 y5); have hF_ : K w wm g2 g7 gp pc [toR p, toR q] kd (V p.at_ p.en) (V q.at_ q.en) 1 sh := (by rw [hw]; exact F.out.set 3 (.int .u8 1) rfl); have h13_ : wm.heap[wr.heap.size]? = some (.cells (P6 p.at_ p.en p.star (m : Int) p.fr p.to_) 66 (0, 0)) := (by rw [hw]; exact blk_far h12_ (p := ⟨g7, 3, none⟩) (Ne.symm N12.out) _); have H12 := Aside0.mk h13_; replace F := Aside0.mk hF_; clear hF_ hw h12_ h13_ hb_; obtain ⟨tc0, tc1, tc2, tc3, tc4⟩ := t5_cells F.out.h7; obtain ⟨x0, x1, x2, x3, x4, x5⟩ := F.out.part 0 rfl; obtain ⟨y0, y1, y2, y3, y4, y5⟩ := F.out.part 1 rfl; simp only [toR, Nat.zero_mul, Nat.zero_add, Nat.one_mul, Nat.reduceAdd] at x0 x1 x2 x3 x4 x5 y0 y1 y2 y3 y4 y5; obtain ⟨z0, z1, z2, z3, z4, z5⟩ := p6_cells H12.out) | (go_at_call 31; (with_reducible refine (vivariumref04_worth.calls kw (s.extract p.fr p.to_) (V p.fr p.to_) _ (HV.out _ _ GP.out.o3 GP.out.o4)).mono ?_); rintro en_ wn ⟨rfl, nd, rfl⟩; (try clear tc0 tc1 tc2 tc3 tc4); (try clear x0 x1 x2 x3 x4 x5); (try clear y0 y1 y2 y3 y4 y5); clear z0 z1 z2 z3 z4 z5; replace H12 := Aside0.mk (blk_drewN H12.out nd); replace F := Aside0.mk (F.out.drewN nd); generalize World.drewN _ nd = wn at F H12 ⊢; obtain ⟨tc0, tc1, tc2, tc3, tc4⟩ := t5_cells F.out.h7; obtain ⟨x0, x1, x2, x3, x4, x5⟩ := F.out.part 0 rfl; obtain ⟨y0, y1, y2, y3, y4, y5⟩ := F.out.part 1 rfl; simp only [toR, Nat.zero_mul, Nat.zero_add, Nat.one_mul, Nat.reduceAdd] at x0 x1 x2 x3 x4 x5 y0 y1 y2 y3 y4 y5; obtain ⟨z0, z1, z2, z3, z4, z5⟩ := p6_cells H12.out) | ((with_reducible refine gate_store (t := 3) (p := 161) (v := .tmp 160) rfl ?_); obtain ⟨r0, r1, r2, r3, r4, _⟩ := froz F.out.h7; refine store_event (w1 := ?wwL4wo) ?hgL4wo rfl rfl ?hrL4wo ?_; (case hgL4wo => rfl); (case hrL4wo => go_simp; rfl); intro wo hw; clear r0 r1 r2 r3 r4; (try clear tc0 tc1 tc2 tc3 tc4); (try clear x0 x1 x2 x3 x4 x5); (try clear y0 y1 y2 y3 y4 y5); clear z0 z1 z2 z3 z4 z5; have hF_ : K w wo g2 g7 gp pc [toR p, toR q] kd (V p.at_ p.en) (V q.at_ q.en) 1 (V p.fr p.to_) := (by rw [hw]; exact F.out.set 4 (.int .i64 (V p.fr p.to_)) rfl); have h12_ : wo.heap[wr.heap.size]? = some (.cells (P6 p.at_ p.en p.star (m : Int) p.fr p.to_) 66 (0, 0)) := (by rw [hw]; exact blk_far H12.out (p := ⟨g7, 4, none⟩) (Ne.symm N12.out) _); replace H12 := Aside0.mk h12_; replace F := Aside0.mk hF_; clear hF_ hw h12_; obtain ⟨tc0, tc1, tc2, tc3, tc4⟩ := t5_cells F.out.h7; obtain ⟨x0, x1, x2, x3, x4, x5⟩ := F.out.part 0 rfl; obtain ⟨y0, y1, y2, y3, y4, y5⟩ := F.out.part 1 rfl; simp only [toR, Nat.zero_mul, Nat.zero_add, Nat.one_mul, Nat.reduceAdd] at x0 x1 x2 x3 x4 x5 y0 y1 y2 y3 y4 y5; obtain ⟨z0, z1, z2, z3, z4, z5⟩ := p6_cells H12.out) | ((with_reducible refine gate_store (t := 3) (p := 170) (v := .tmp 169) rfl ?_); obtain ⟨r0, r1, r2, r3, r4, _⟩ := froz F.out.h7; refine store_event (w1 := ?wwL4wq) ?hgL4wq rfl rfl ?hrL4wq ?_; (case hgL4wq => rfl); (case hrL4wq => go_simp; rfl); intro wq hw; clear r0 r1 r2 r3 r4; (try clear tc0 tc1 tc2 tc3 tc4); (try clear x0 x1 x2 x3 x4 x5); (try clear y0 y1 y2 y3 y4 y5); clear z0 z1 z2 z3 z4 z5; have hF_ : K w wq g2 g7 gp pc [toR p, toR q] kd (V p.at_ p.en) (V q.at_ q.en) 1 (-(V p.fr p.to_)) := (by rw [hw]; (try rw [HNG.out]); exact F.out.set 4 (.int .i64 (-(V p.fr p.to_))) rfl); have h12_ : wq.heap[wr.heap.size]? = some (.cells (P6 p.at_ p.en p.star (m : Int) p.fr p.to_) 66 (0, 0)) := (by rw [hw]; exact blk_far H12.out (p := ⟨g7, 4, none⟩) (Ne.symm N12.out) _); replace H12 := Aside0.mk h12_; replace F := Aside0.mk hF_; clear hF_ hw h12_; obtain ⟨tc0, tc1, tc2, tc3, tc4⟩ := t5_cells F.out.h7; obtain ⟨x0, x1, x2, x3, x4, x5⟩ := F.out.part 0 rfl; obtain ⟨y0, y1, y2, y3, y4, y5⟩ := F.out.part 1 rfl; simp only [toR, Nat.zero_mul, Nat.zero_add, Nat.one_mul, Nat.reduceAdd] at x0 x1 x2 x3 x4 x5 y0 y1 y2 y3 y4 y5; obtain ⟨z0, z1, z2, z3, z4, z5⟩ := p6_cells H12.out))
                            go_roundg 2
                            case measure => have := hk.out; omega
                            case rel => exact ⟨1, 1, (-(V p.fr p.to_)), by go_num, ⟨by omega, by omega⟩, ⟨(congrArg (turnsV V s ([p, q].drop 1) ((1 : Nat) : Int)) hst).symm.trans ht.out⟩, F⟩
                        · have cMb : (bt s (m : Int) == 45) = false := by simpa using cM
                          have hst : (if p.star < 0 ∧ p.sign < 0 then (tu, sh) else (1 + ((0 : Nat) : Int), if 0 ≤ p.sign then (if bt s p.sign = 45 then -(V p.fr p.to_) else (V p.fr p.to_)) else sh)) = ((1, (V p.fr p.to_)) : Int × Int) := by rw [hm, if_neg (fun h => cG h.2), if_pos (by omega), if_neg cM]; rfl
                          by_cases cS : p.star < 0
                          · have cSb : decide ((0 : Int) ≤ p.star) = false := decide_eq_false (by omega)
                            have N12 := Aside0.mk (Nat.ne_of_lt (blk_lt F.out.h7))
                            obtain ⟨tc0, tc1, tc2, tc3, tc4⟩ := t5_cells F.out.h7
                            obtain ⟨x0, x1, x2, x3, x4, x5⟩ := F.out.part 0 rfl
                            obtain ⟨y0, y1, y2, y3, y4, y5⟩ := F.out.part 1 rfl
                            simp only [toR, Nat.zero_mul, Nat.zero_add, Nat.one_mul, Nat.reduceAdd] at x0 x1 x2 x3 x4 x5 y0 y1 y2 y3 y4 y5
                            rw [hm] at x3
                            go_wp2_with (first | ((with_reducible refine gate_store (t := 5) (p := 150) (v := .tmp 149) rfl ?_); have hb_ := below_alloc (Below.refl wr.heap.size wr) (.cells #[.int .i64 (p.at_ : Int), .int .i64 (p.en : Int), .int .i64 p.star, .int .i64 (m : Int), .int .i64 (p.fr : Int), .int .i64 (p.to_ : Int)] 66); have h12_ := blk_new wr (.cells #[.int .i64 (p.at_ : Int), .int .i64 (p.en : Int), .int .i64 p.star, .int .i64 (m : Int), .int .i64 (p.fr : Int), .int .i64 (p.to_ : Int)] 66); generalize wr.alloc (.cells #[.int .i64 (p.at_ : Int), .int .i64 (p.en : Int), .int .i64 p.star, .int .i64 (m : Int), .int .i64 (p.fr : Int), .int .i64 (p.to_ : Int)] 66) = wx at hb_ h12_ ⊢; (try clear tc0 tc1 tc2 tc3 tc4); (try clear x0 x1 x2 x3 x4 x5); (try clear y0 y1 y2 y3 y4 y5); replace F := Aside0.mk (F.out.on hb_); obtain ⟨tc0, tc1, tc2, tc3, tc4⟩ := t5_cells F.out.h7; obtain ⟨x0, x1, x2, x3, x4, x5⟩ := F.out.part 0 rfl; obtain ⟨y0, y1, y2, y3, y4, y5⟩ := F.out.part 1 rfl; simp only [toR, Nat.zero_mul, Nat.zero_add, Nat.one_mul, Nat.reduceAdd] at x0 x1 x2 x3 x4 x5 y0 y1 y2 y3 y4 y5; obtain ⟨r0, r1, r2, r3, r4, _⟩ := froz F.out.h7; refine store_event (w1 := ?wwL5wm) ?hgL5wm rfl rfl ?hrL5wm ?_; (case hgL5wm => rfl); (case hrL5wm => go_simp; rfl); intro wm hw; clear r0 r1 r2 r3 r4; (try clear tc0 tc1 tc2 tc3 tc4); (try clear x0 x1 x2 x3 x4 x5); (try clear y0 y1 y2 y3 y4 y5); have hF_ : K w wm g2 g7 gp pc [toR p, toR q] kd (V p.at_ p.en) (V q.at_ q.en) 1 sh := (by rw [hw]; exact F.out.set 3 (.int .u8 1) rfl); have h13_ : wm.heap[wr.heap.size]? = some (.cells (P6 p.at_ p.en p.star (m : Int) p.fr p.to_) 66 (0, 0)) := (by rw [hw]; exact blk_far h12_ (p := ⟨g7, 3, none⟩) (Ne.symm N12.out) _); have H12 := Aside0.mk h13_; replace F := Aside0.mk hF_; clear hF_ hw h12_ h13_ hb_; obtain ⟨tc0, tc1, tc2, tc3, tc4⟩ := t5_cells F.out.h7; obtain ⟨x0, x1, x2, x3, x4, x5⟩ := F.out.part 0 rfl; obtain ⟨y0, y1, y2, y3, y4, y5⟩ := F.out.part 1 rfl; simp only [toR, Nat.zero_mul, Nat.zero_add, Nat.one_mul, Nat.reduceAdd] at x0 x1 x2 x3 x4 x5 y0 y1 y2 y3 y4 y5; obtain ⟨z0, z1, z2, z3, z4, z5⟩ := p6_cells H12.out) | (go_at_call 31; (with_reducible refine (vivariumref04_worth.calls kw (s.extract p.fr p.to_) (V p.fr p.to_) _ (HV.out _ _ GP.out.o3 GP.out.o4)).mono ?_); rintro en_ wn ⟨rfl, nd, rfl⟩; (try clear tc0 tc1 tc2 tc3 tc4); (try clear x0 x1 x2 x3 x4 x5); (try clear y0 y1 y2 y3 y4 y5); clear z0 z1 z2 z3 z4 z5; replace H12 := Aside0.mk (blk_drewN H12.out nd); replace F := Aside0.mk (F.out.drewN nd); generalize World.drewN _ nd = wn at F H12 ⊢; obtain ⟨tc0, tc1, tc2, tc3, tc4⟩ := t5_cells F.out.h7; obtain ⟨x0, x1, x2, x3, x4, x5⟩ := F.out.part 0 rfl; obtain ⟨y0, y1, y2, y3, y4, y5⟩ := F.out.part 1 rfl; simp only [toR, Nat.zero_mul, Nat.zero_add, Nat.one_mul, Nat.reduceAdd] at x0 x1 x2 x3 x4 x5 y0 y1 y2 y3 y4 y5; obtain ⟨z0, z1, z2, z3, z4, z5⟩ := p6_cells H12.out) | ((with_reducible refine gate_store (t := 3) (p := 161) (v := .tmp 160) rfl ?_); obtain ⟨r0, r1, r2, r3, r4, _⟩ := froz F.out.h7; refine store_event (w1 := ?wwL5wo) ?hgL5wo rfl rfl ?hrL5wo ?_; (case hgL5wo => rfl); (case hrL5wo => go_simp; rfl); intro wo hw; clear r0 r1 r2 r3 r4; (try clear tc0 tc1 tc2 tc3 tc4); (try clear x0 x1 x2 x3 x4 x5); (try clear y0 y1 y2 y3 y4 y5); clear z0 z1 z2 z3 z4 z5; have hF_ : K w wo g2 g7 gp pc [toR p, toR q] kd (V p.at_ p.en) (V q.at_ q.en) 1 (V p.fr p.to_) := (by rw [hw]; exact F.out.set 4 (.int .i64 (V p.fr p.to_)) rfl); have h12_ : wo.heap[wr.heap.size]? = some (.cells (P6 p.at_ p.en p.star (m : Int) p.fr p.to_) 66 (0, 0)) := (by rw [hw]; exact blk_far H12.out (p := ⟨g7, 4, none⟩) (Ne.symm N12.out) _); replace H12 := Aside0.mk h12_; replace F := Aside0.mk hF_; clear hF_ hw h12_; obtain ⟨tc0, tc1, tc2, tc3, tc4⟩ := t5_cells F.out.h7; obtain ⟨x0, x1, x2, x3, x4, x5⟩ := F.out.part 0 rfl; obtain ⟨y0, y1, y2, y3, y4, y5⟩ := F.out.part 1 rfl; simp only [toR, Nat.zero_mul, Nat.zero_add, Nat.one_mul, Nat.reduceAdd] at x0 x1 x2 x3 x4 x5 y0 y1 y2 y3 y4 y5; obtain ⟨z0, z1, z2, z3, z4, z5⟩ := p6_cells H12.out))
                            go_roundg 2
                            case measure => have := hk.out; omega
                            case rel => exact ⟨1, 1, (V p.fr p.to_), by go_num, ⟨by omega, by omega⟩, ⟨(congrArg (turnsV V s ([p, q].drop 1) ((1 : Nat) : Int)) hst).symm.trans ht.out⟩, F⟩
                          · have cSb : decide ((0 : Int) ≤ p.star) = true := decide_eq_true (by omega)
                            have N12 := Aside0.mk (Nat.ne_of_lt (blk_lt F.out.h7))
                            obtain ⟨tc0, tc1, tc2, tc3, tc4⟩ := t5_cells F.out.h7
                            obtain ⟨x0, x1, x2, x3, x4, x5⟩ := F.out.part 0 rfl
                            obtain ⟨y0, y1, y2, y3, y4, y5⟩ := F.out.part 1 rfl
                            simp only [toR, Nat.zero_mul, Nat.zero_add, Nat.one_mul, Nat.reduceAdd] at x0 x1 x2 x3 x4 x5 y0 y1 y2 y3 y4 y5
                            rw [hm] at x3
                            go_wp2_with (first | ((with_reducible refine gate_store (t := 5) (p := 150) (v := .tmp 149) rfl ?_); have hb_ := below_alloc (Below.refl wr.heap.size wr) (.cells #[.int .i64 (p.at_ : Int), .int .i64 (p.en : Int), .int .i64 p.star, .int .i64 (m : Int), .int .i64 (p.fr : Int), .int .i64 (p.to_ : Int)] 66); have h12_ := blk_new wr (.cells #[.int .i64 (p.at_ : Int), .int .i64 (p.en : Int), .int .i64 p.star, .int .i64 (m : Int), .int .i64 (p.fr : Int), .int .i64 (p.to_ : Int)] 66); generalize wr.alloc (.cells #[.int .i64 (p.at_ : Int), .int .i64 (p.en : Int), .int .i64 p.star, .int .i64 (m : Int), .int .i64 (p.fr : Int), .int .i64 (p.to_ : Int)] 66) = wx at hb_ h12_ ⊢; (try clear tc0 tc1 tc2 tc3 tc4); (try clear x0 x1 x2 x3 x4 x5); (try clear y0 y1 y2 y3 y4 y5); replace F := Aside0.mk (F.out.on hb_); obtain ⟨tc0, tc1, tc2, tc3, tc4⟩ := t5_cells F.out.h7; obtain ⟨x0, x1, x2, x3, x4, x5⟩ := F.out.part 0 rfl; obtain ⟨y0, y1, y2, y3, y4, y5⟩ := F.out.part 1 rfl; simp only [toR, Nat.zero_mul, Nat.zero_add, Nat.one_mul, Nat.reduceAdd] at x0 x1 x2 x3 x4 x5 y0 y1 y2 y3 y4 y5; obtain ⟨r0, r1, r2, r3, r4, _⟩ := froz F.out.h7; refine store_event (w1 := ?wwL6wm) ?hgL6wm rfl rfl ?hrL6wm ?_; (case hgL6wm => rfl); (case hrL6wm => go_simp; rfl); intro wm hw; clear r0 r1 r2 r3 r4; (try clear tc0 tc1 tc2 tc3 tc4); (try clear x0 x1 x2 x3 x4 x5); (try clear y0 y1 y2 y3 y4 y5); have hF_ : K w wm g2 g7 gp pc [toR p, toR q] kd (V p.at_ p.en) (V q.at_ q.en) 1 sh := (by rw [hw]; exact F.out.set 3 (.int .u8 1) rfl); have h13_ : wm.heap[wr.heap.size]? = some (.cells (P6 p.at_ p.en p.star (m : Int) p.fr p.to_) 66 (0, 0)) := (by rw [hw]; exact blk_far h12_ (p := ⟨g7, 3, none⟩) (Ne.symm N12.out) _); have H12 := Aside0.mk h13_; replace F := Aside0.mk hF_; clear hF_ hw h12_ h13_ hb_; obtain ⟨tc0, tc1, tc2, tc3, tc4⟩ := t5_cells F.out.h7; obtain ⟨x0, x1, x2, x3, x4, x5⟩ := F.out.part 0 rfl; obtain ⟨y0, y1, y2, y3, y4, y5⟩ := F.out.part 1 rfl; simp only [toR, Nat.zero_mul, Nat.zero_add, Nat.one_mul, Nat.reduceAdd] at x0 x1 x2 x3 x4 x5 y0 y1 y2 y3 y4 y5; obtain ⟨z0, z1, z2, z3, z4, z5⟩ := p6_cells H12.out) | (go_at_call 31; (with_reducible refine (vivariumref04_worth.calls kw (s.extract p.fr p.to_) (V p.fr p.to_) _ (HV.out _ _ GP.out.o3 GP.out.o4)).mono ?_); rintro en_ wn ⟨rfl, nd, rfl⟩; (try clear tc0 tc1 tc2 tc3 tc4); (try clear x0 x1 x2 x3 x4 x5); (try clear y0 y1 y2 y3 y4 y5); clear z0 z1 z2 z3 z4 z5; replace H12 := Aside0.mk (blk_drewN H12.out nd); replace F := Aside0.mk (F.out.drewN nd); generalize World.drewN _ nd = wn at F H12 ⊢; obtain ⟨tc0, tc1, tc2, tc3, tc4⟩ := t5_cells F.out.h7; obtain ⟨x0, x1, x2, x3, x4, x5⟩ := F.out.part 0 rfl; obtain ⟨y0, y1, y2, y3, y4, y5⟩ := F.out.part 1 rfl; simp only [toR, Nat.zero_mul, Nat.zero_add, Nat.one_mul, Nat.reduceAdd] at x0 x1 x2 x3 x4 x5 y0 y1 y2 y3 y4 y5; obtain ⟨z0, z1, z2, z3, z4, z5⟩ := p6_cells H12.out) | ((with_reducible refine gate_store (t := 3) (p := 161) (v := .tmp 160) rfl ?_); obtain ⟨r0, r1, r2, r3, r4, _⟩ := froz F.out.h7; refine store_event (w1 := ?wwL6wo) ?hgL6wo rfl rfl ?hrL6wo ?_; (case hgL6wo => rfl); (case hrL6wo => go_simp; rfl); intro wo hw; clear r0 r1 r2 r3 r4; (try clear tc0 tc1 tc2 tc3 tc4); (try clear x0 x1 x2 x3 x4 x5); (try clear y0 y1 y2 y3 y4 y5); clear z0 z1 z2 z3 z4 z5; have hF_ : K w wo g2 g7 gp pc [toR p, toR q] kd (V p.at_ p.en) (V q.at_ q.en) 1 (V p.fr p.to_) := (by rw [hw]; exact F.out.set 4 (.int .i64 (V p.fr p.to_)) rfl); have h12_ : wo.heap[wr.heap.size]? = some (.cells (P6 p.at_ p.en p.star (m : Int) p.fr p.to_) 66 (0, 0)) := (by rw [hw]; exact blk_far H12.out (p := ⟨g7, 4, none⟩) (Ne.symm N12.out) _); replace H12 := Aside0.mk h12_; replace F := Aside0.mk hF_; clear hF_ hw h12_; obtain ⟨tc0, tc1, tc2, tc3, tc4⟩ := t5_cells F.out.h7; obtain ⟨x0, x1, x2, x3, x4, x5⟩ := F.out.part 0 rfl; obtain ⟨y0, y1, y2, y3, y4, y5⟩ := F.out.part 1 rfl; simp only [toR, Nat.zero_mul, Nat.zero_add, Nat.one_mul, Nat.reduceAdd] at x0 x1 x2 x3 x4 x5 y0 y1 y2 y3 y4 y5; obtain ⟨z0, z1, z2, z3, z4, z5⟩ := p6_cells H12.out))
                            go_roundg 2
                            case measure => have := hk.out; omega
                            case rel => exact ⟨1, 1, (V p.fr p.to_), by go_num, ⟨by omega, by omega⟩, ⟨(congrArg (turnsV V s ([p, q].drop 1) ((1 : Nat) : Int)) hst).symm.trans ht.out⟩, F⟩
                    · by_cases cG : q.sign < 0
                      · by_cases cS : q.star < 0
                        · have cSb : decide ((0 : Int) ≤ q.star) = false := decide_eq_false (by omega)
                          have cGb : decide ((0 : Int) ≤ q.sign) = false := decide_eq_false (by omega)
                          have hst : (if q.star < 0 ∧ q.sign < 0 then (tu, sh) else (1 + ((1 : Nat) : Int), if 0 ≤ q.sign then (if bt s q.sign = 45 then -(V q.fr q.to_) else (V q.fr q.to_)) else sh)) = ((tu, sh) : Int × Int) := by rw [if_pos ⟨cS, cG⟩]
                          have N12 := Aside0.mk (Nat.ne_of_lt (blk_lt F.out.h7))
                          obtain ⟨tc0, tc1, tc2, tc3, tc4⟩ := t5_cells F.out.h7
                          obtain ⟨x0, x1, x2, x3, x4, x5⟩ := F.out.part 0 rfl
                          obtain ⟨y0, y1, y2, y3, y4, y5⟩ := F.out.part 1 rfl
                          simp only [toR, Nat.zero_mul, Nat.zero_add, Nat.one_mul, Nat.reduceAdd] at x0 x1 x2 x3 x4 x5 y0 y1 y2 y3 y4 y5
                          go_wp2
                          go_roundg 1
                          case measure => have := hk.out; omega
                          case rel => exact ⟨2, tu, sh, by go_num, ⟨by omega, by omega⟩, ⟨(congrArg (turnsV V s ([p, q].drop 2) ((2 : Nat) : Int)) hst).symm.trans ht.out⟩, ⟨F.out.on (below_alloc (Below.refl _ _) _)⟩⟩
                        · have cSb : decide ((0 : Int) ≤ q.star) = true := decide_eq_true (by omega)
                          have cGb : decide ((0 : Int) ≤ q.sign) = false := decide_eq_false (by omega)
                          have hst : (if q.star < 0 ∧ q.sign < 0 then (tu, sh) else (1 + ((1 : Nat) : Int), if 0 ≤ q.sign then (if bt s q.sign = 45 then -(V q.fr q.to_) else (V q.fr q.to_)) else sh)) = ((2, sh) : Int × Int) := by rw [if_neg (fun h => cS h.1), if_neg (by omega)]; rfl
                          have N12 := Aside0.mk (Nat.ne_of_lt (blk_lt F.out.h7))
                          obtain ⟨tc0, tc1, tc2, tc3, tc4⟩ := t5_cells F.out.h7
                          obtain ⟨x0, x1, x2, x3, x4, x5⟩ := F.out.part 0 rfl
                          obtain ⟨y0, y1, y2, y3, y4, y5⟩ := F.out.part 1 rfl
                          simp only [toR, Nat.zero_mul, Nat.zero_add, Nat.one_mul, Nat.reduceAdd] at x0 x1 x2 x3 x4 x5 y0 y1 y2 y3 y4 y5
                          go_wp2_with (first | ((with_reducible refine gate_store (t := 5) (p := 150) (v := .tmp 149) rfl ?_); have hb_ := below_alloc (Below.refl wr.heap.size wr) (.cells #[.int .i64 (q.at_ : Int), .int .i64 (q.en : Int), .int .i64 q.star, .int .i64 q.sign, .int .i64 (q.fr : Int), .int .i64 (q.to_ : Int)] 66); have h12_ := blk_new wr (.cells #[.int .i64 (q.at_ : Int), .int .i64 (q.en : Int), .int .i64 q.star, .int .i64 q.sign, .int .i64 (q.fr : Int), .int .i64 (q.to_ : Int)] 66); generalize wr.alloc (.cells #[.int .i64 (q.at_ : Int), .int .i64 (q.en : Int), .int .i64 q.star, .int .i64 q.sign, .int .i64 (q.fr : Int), .int .i64 (q.to_ : Int)] 66) = wx at hb_ h12_ ⊢; (try clear tc0 tc1 tc2 tc3 tc4); (try clear x0 x1 x2 x3 x4 x5); (try clear y0 y1 y2 y3 y4 y5); replace F := Aside0.mk (F.out.on hb_); obtain ⟨tc0, tc1, tc2, tc3, tc4⟩ := t5_cells F.out.h7; obtain ⟨x0, x1, x2, x3, x4, x5⟩ := F.out.part 0 rfl; obtain ⟨y0, y1, y2, y3, y4, y5⟩ := F.out.part 1 rfl; simp only [toR, Nat.zero_mul, Nat.zero_add, Nat.one_mul, Nat.reduceAdd] at x0 x1 x2 x3 x4 x5 y0 y1 y2 y3 y4 y5; obtain ⟨r0, r1, r2, r3, r4, _⟩ := froz F.out.h7; refine store_event (w1 := ?wwL8wm) ?hgL8wm rfl rfl ?hrL8wm ?_; (case hgL8wm => rfl); (case hrL8wm => go_simp; rfl); intro wm hw; clear r0 r1 r2 r3 r4; (try clear tc0 tc1 tc2 tc3 tc4); (try clear x0 x1 x2 x3 x4 x5); (try clear y0 y1 y2 y3 y4 y5); have hF_ : K w wm g2 g7 gp pc [toR p, toR q] kd (V p.at_ p.en) (V q.at_ q.en) 2 sh := (by rw [hw]; exact F.out.set 3 (.int .u8 2) rfl); have h13_ : wm.heap[wr.heap.size]? = some (.cells (P6 q.at_ q.en q.star q.sign q.fr q.to_) 66 (0, 0)) := (by rw [hw]; exact blk_far h12_ (p := ⟨g7, 3, none⟩) (Ne.symm N12.out) _); have H12 := Aside0.mk h13_; replace F := Aside0.mk hF_; clear hF_ hw h12_ h13_ hb_; obtain ⟨tc0, tc1, tc2, tc3, tc4⟩ := t5_cells F.out.h7; obtain ⟨x0, x1, x2, x3, x4, x5⟩ := F.out.part 0 rfl; obtain ⟨y0, y1, y2, y3, y4, y5⟩ := F.out.part 1 rfl; simp only [toR, Nat.zero_mul, Nat.zero_add, Nat.one_mul, Nat.reduceAdd] at x0 x1 x2 x3 x4 x5 y0 y1 y2 y3 y4 y5; obtain ⟨z0, z1, z2, z3, z4, z5⟩ := p6_cells H12.out))
                          go_roundg 1
                          case measure => have := hk.out; omega
                          case rel => exact ⟨2, 2, sh, by go_num, ⟨by omega, by omega⟩, ⟨(congrArg (turnsV V s ([p, q].drop 2) ((2 : Nat) : Int)) hst).symm.trans ht.out⟩, F⟩
                      · obtain ⟨m, hm, hml⟩ := (GQ.out.o5).resolve_left cG
                        rw [hm] at cG
                        have cG2 : decide ((0 : Int) ≤ (m : Int)) = true := decide_eq_true (by omega)
                        have m1 : ((m : Int) < (s.size : Int)) = True := eq_true (by omega)
                        have m2 : ((0 : Int) ≤ (m : Int)) = True := eq_true (by omega)
                        have m3 : ∀ h : m < s.size, ((s[m]'h).toNat : Int) = bt s (m : Int) := bt_at s (m : Int)
                        have e1 : (0 : Int) ≤ (q.fr : Int) := by omega
                        have e2 : (q.fr : Int) ≤ (q.to_ : Int) := by have := GQ.out.o3; omega
                        have e3 : (0 : Int) ≤ (q.to_ : Int) := by omega
                        have e4 : (q.to_ : Int) ≤ (s.size : Int) := by have := GQ.out.o4; omega
                        have HNG := Aside0.mk (show wrap64 (-(V q.fr q.to_)) = -(V q.fr q.to_) by have := HVR.out q.fr q.to_; unfold wrap64; omega)
                        by_cases cM : bt s (m : Int) = 45
                        · have cMb : (bt s (m : Int) == 45) = true := by rw [cM]; rfl
                          have hst : (if q.star < 0 ∧ q.sign < 0 then (tu, sh) else (1 + ((1 : Nat) : Int), if 0 ≤ q.sign then (if bt s q.sign = 45 then -(V q.fr q.to_) else (V q.fr q.to_)) else sh)) = ((2, (-(V q.fr q.to_))) : Int × Int) := by rw [hm, if_neg (fun h => cG h.2), if_pos (by omega), if_pos cM]; rfl
                          by_cases cS : q.star < 0
                          · have cSb : decide ((0 : Int) ≤ q.star) = false := decide_eq_false (by omega)
                            have N12 := Aside0.mk (Nat.ne_of_lt (blk_lt F.out.h7))
                            obtain ⟨tc0, tc1, tc2, tc3, tc4⟩ := t5_cells F.out.h7
                            obtain ⟨x0, x1, x2, x3, x4, x5⟩ := F.out.part 0 rfl
                            obtain ⟨y0, y1, y2, y3, y4, y5⟩ := F.out.part 1 rfl
                            simp only [toR, Nat.zero_mul, Nat.zero_add, Nat.one_mul, Nat.reduceAdd] at x0 x1 x2 x3 x4 x5 y0 y1 y2 y3 y4 y5
                            rw [hm] at y3
                            go_wp2_with (first | ((with_reducible refine gate_store (t := 5) (p := 150) (v := .tmp 149) rfl ?_); have hb_ := below_alloc (Below.refl wr.heap.size wr) (.cells #[.int .i64 (q.at_ : Int), .int .i64 (q.en : Int), .int .i64 q.star, .int .i64 (m : Int), .int .i64 (q.fr : Int), .int .i64 (q.to_ : Int)] 66); have h12_ := blk_new wr (.cells #[.int .i64 (q.at_ : Int), .int .i64 (q.en : Int), .int .i64 q.star, .int .i64 (m : Int), .int .i64 (q.fr : Int), .int .i64 (q.to_ : Int)] 66); generalize wr.alloc (.cells #[.int .i64 (q.at_ : Int), .int .i64 (q.en : Int), .int .i64 q.star, .int .i64 (m : Int), .int .i64 (q.fr : Int), .int .i64 (q.to_ : Int)] 66) = wx at hb_ h12_ ⊢; (try clear tc0 tc1 tc2 tc3 tc4); (try clear x0 x1 x2 x3 x4 x5); (try clear y0 y1 y2 y3 y4 y5); replace F := Aside0.mk (F.out.on hb_); obtain ⟨tc0, tc1, tc2, tc3, tc4⟩ := t5_cells F.out.h7; obtain ⟨x0, x1, x2, x3, x4, x5⟩ := F.out.part 0 rfl; obtain ⟨y0, y1, y2, y3, y4, y5⟩ := F.out.part 1 rfl; simp only [toR, Nat.zero_mul, Nat.zero_add, Nat.one_mul, Nat.reduceAdd] at x0 x1 x2 x3 x4 x5 y0 y1 y2 y3 y4 y5; obtain ⟨r0, r1, r2, r3, r4, _⟩ := froz F.out.h7; refine store_event (w1 := ?wwL9wm) ?hgL9wm rfl rfl ?hrL9wm ?_; (case hgL9wm => rfl); (case hrL9wm => go_simp; rfl); intro wm hw; clear r0 r1 r2 r3 r4; (try clear tc0 tc1 tc2 tc3 tc4); (try clear x0 x1 x2 x3 x4 x5); (try clear y0 y1 y2 y3 y4 y5); have hF_ : K w wm g2 g7 gp pc [toR p, toR q] kd (V p.at_ p.en) (V q.at_ q.en) 2 sh := (by rw [hw]; exact F.out.set 3 (.int .u8 2) rfl); have h13_ : wm.heap[wr.heap.size]? = some (.cells (P6 q.at_ q.en q.star (m : Int) q.fr q.to_) 66 (0, 0)) := (by rw [hw]; exact blk_far h12_ (p := ⟨g7, 3, none⟩) (Ne.symm N12.out) _); have H12 := Aside0.mk h13_; replace F := Aside0.mk hF_; clear hF_ hw h12_ h13_ hb_; obtain ⟨tc0, tc1, tc2, tc3, tc4⟩ := t5_cells F.out.h7; obtain ⟨x0, x1, x2, x3, x4, x5⟩ := F.out.part 0 rfl; obtain ⟨y0, y1, y2, y3, y4, y5⟩ := F.out.part 1 rfl; simp only [toR, Nat.zero_mul, Nat.zero_add, Nat.one_mul, Nat.reduceAdd] at x0 x1 x2 x3 x4 x5 y0 y1 y2 y3 y4 y5; obtain ⟨z0, z1, z2, z3, z4, z5⟩ := p6_cells H12.out) | (go_at_call 31; (with_reducible refine (vivariumref04_worth.calls kw (s.extract q.fr q.to_) (V q.fr q.to_) _ (HV.out _ _ GQ.out.o3 GQ.out.o4)).mono ?_); rintro en_ wn ⟨rfl, nd, rfl⟩; (try clear tc0 tc1 tc2 tc3 tc4); (try clear x0 x1 x2 x3 x4 x5); (try clear y0 y1 y2 y3 y4 y5); clear z0 z1 z2 z3 z4 z5; replace H12 := Aside0.mk (blk_drewN H12.out nd); replace F := Aside0.mk (F.out.drewN nd); generalize World.drewN _ nd = wn at F H12 ⊢; obtain ⟨tc0, tc1, tc2, tc3, tc4⟩ := t5_cells F.out.h7; obtain ⟨x0, x1, x2, x3, x4, x5⟩ := F.out.part 0 rfl; obtain ⟨y0, y1, y2, y3, y4, y5⟩ := F.out.part 1 rfl; simp only [toR, Nat.zero_mul, Nat.zero_add, Nat.one_mul, Nat.reduceAdd] at x0 x1 x2 x3 x4 x5 y0 y1 y2 y3 y4 y5; obtain ⟨z0, z1, z2, z3, z4, z5⟩ := p6_cells H12.out) | ((with_reducible refine gate_store (t := 3) (p := 161) (v := .tmp 160) rfl ?_); obtain ⟨r0, r1, r2, r3, r4, _⟩ := froz F.out.h7; refine store_event (w1 := ?wwL9wo) ?hgL9wo rfl rfl ?hrL9wo ?_; (case hgL9wo => rfl); (case hrL9wo => go_simp; rfl); intro wo hw; clear r0 r1 r2 r3 r4; (try clear tc0 tc1 tc2 tc3 tc4); (try clear x0 x1 x2 x3 x4 x5); (try clear y0 y1 y2 y3 y4 y5); clear z0 z1 z2 z3 z4 z5; have hF_ : K w wo g2 g7 gp pc [toR p, toR q] kd (V p.at_ p.en) (V q.at_ q.en) 2 (V q.fr q.to_) := (by rw [hw]; exact F.out.set 4 (.int .i64 (V q.fr q.to_)) rfl); have h12_ : wo.heap[wr.heap.size]? = some (.cells (P6 q.at_ q.en q.star (m : Int) q.fr q.to_) 66 (0, 0)) := (by rw [hw]; exact blk_far H12.out (p := ⟨g7, 4, none⟩) (Ne.symm N12.out) _); replace H12 := Aside0.mk h12_; replace F := Aside0.mk hF_; clear hF_ hw h12_; obtain ⟨tc0, tc1, tc2, tc3, tc4⟩ := t5_cells F.out.h7; obtain ⟨x0, x1, x2, x3, x4, x5⟩ := F.out.part 0 rfl; obtain ⟨y0, y1, y2, y3, y4, y5⟩ := F.out.part 1 rfl; simp only [toR, Nat.zero_mul, Nat.zero_add, Nat.one_mul, Nat.reduceAdd] at x0 x1 x2 x3 x4 x5 y0 y1 y2 y3 y4 y5; obtain ⟨z0, z1, z2, z3, z4, z5⟩ := p6_cells H12.out) | ((with_reducible refine gate_store (t := 3) (p := 170) (v := .tmp 169) rfl ?_); obtain ⟨r0, r1, r2, r3, r4, _⟩ := froz F.out.h7; refine store_event (w1 := ?wwL9wq) ?hgL9wq rfl rfl ?hrL9wq ?_; (case hgL9wq => rfl); (case hrL9wq => go_simp; rfl); intro wq hw; clear r0 r1 r2 r3 r4; (try clear tc0 tc1 tc2 tc3 tc4); (try clear x0 x1 x2 x3 x4 x5); (try clear y0 y1 y2 y3 y4 y5); clear z0 z1 z2 z3 z4 z5; have hF_ : K w wq g2 g7 gp pc [toR p, toR q] kd (V p.at_ p.en) (V q.at_ q.en) 2 (-(V q.fr q.to_)) := (by rw [hw]; (try rw [HNG.out]); exact F.out.set 4 (.int .i64 (-(V q.fr q.to_))) rfl); have h12_ : wq.heap[wr.heap.size]? = some (.cells (P6 q.at_ q.en q.star (m : Int) q.fr q.to_) 66 (0, 0)) := (by rw [hw]; exact blk_far H12.out (p := ⟨g7, 4, none⟩) (Ne.symm N12.out) _); replace H12 := Aside0.mk h12_; replace F := Aside0.mk hF_; clear hF_ hw h12_; obtain ⟨tc0, tc1, tc2, tc3, tc4⟩ := t5_cells F.out.h7; obtain ⟨x0, x1, x2, x3, x4, x5⟩ := F.out.part 0 rfl; obtain ⟨y0, y1, y2, y3, y4, y5⟩ := F.out.part 1 rfl; simp only [toR, Nat.zero_mul, Nat.zero_add, Nat.one_mul, Nat.reduceAdd] at x0 x1 x2 x3 x4 x5 y0 y1 y2 y3 y4 y5; obtain ⟨z0, z1, z2, z3, z4, z5⟩ := p6_cells H12.out))
                            go_roundg 1
                            case measure => have := hk.out; omega
                            case rel => exact ⟨2, 2, (-(V q.fr q.to_)), by go_num, ⟨by omega, by omega⟩, ⟨(congrArg (turnsV V s ([p, q].drop 2) ((2 : Nat) : Int)) hst).symm.trans ht.out⟩, F⟩
                          · have cSb : decide ((0 : Int) ≤ q.star) = true := decide_eq_true (by omega)
                            have N12 := Aside0.mk (Nat.ne_of_lt (blk_lt F.out.h7))
                            obtain ⟨tc0, tc1, tc2, tc3, tc4⟩ := t5_cells F.out.h7
                            obtain ⟨x0, x1, x2, x3, x4, x5⟩ := F.out.part 0 rfl
                            obtain ⟨y0, y1, y2, y3, y4, y5⟩ := F.out.part 1 rfl
                            simp only [toR, Nat.zero_mul, Nat.zero_add, Nat.one_mul, Nat.reduceAdd] at x0 x1 x2 x3 x4 x5 y0 y1 y2 y3 y4 y5
                            rw [hm] at y3
                            go_wp2_with (first | ((with_reducible refine gate_store (t := 5) (p := 150) (v := .tmp 149) rfl ?_); have hb_ := below_alloc (Below.refl wr.heap.size wr) (.cells #[.int .i64 (q.at_ : Int), .int .i64 (q.en : Int), .int .i64 q.star, .int .i64 (m : Int), .int .i64 (q.fr : Int), .int .i64 (q.to_ : Int)] 66); have h12_ := blk_new wr (.cells #[.int .i64 (q.at_ : Int), .int .i64 (q.en : Int), .int .i64 q.star, .int .i64 (m : Int), .int .i64 (q.fr : Int), .int .i64 (q.to_ : Int)] 66); generalize wr.alloc (.cells #[.int .i64 (q.at_ : Int), .int .i64 (q.en : Int), .int .i64 q.star, .int .i64 (m : Int), .int .i64 (q.fr : Int), .int .i64 (q.to_ : Int)] 66) = wx at hb_ h12_ ⊢; (try clear tc0 tc1 tc2 tc3 tc4); (try clear x0 x1 x2 x3 x4 x5); (try clear y0 y1 y2 y3 y4 y5); replace F := Aside0.mk (F.out.on hb_); obtain ⟨tc0, tc1, tc2, tc3, tc4⟩ := t5_cells F.out.h7; obtain ⟨x0, x1, x2, x3, x4, x5⟩ := F.out.part 0 rfl; obtain ⟨y0, y1, y2, y3, y4, y5⟩ := F.out.part 1 rfl; simp only [toR, Nat.zero_mul, Nat.zero_add, Nat.one_mul, Nat.reduceAdd] at x0 x1 x2 x3 x4 x5 y0 y1 y2 y3 y4 y5; obtain ⟨r0, r1, r2, r3, r4, _⟩ := froz F.out.h7; refine store_event (w1 := ?wwL10wm) ?hgL10wm rfl rfl ?hrL10wm ?_; (case hgL10wm => rfl); (case hrL10wm => go_simp; rfl); intro wm hw; clear r0 r1 r2 r3 r4; (try clear tc0 tc1 tc2 tc3 tc4); (try clear x0 x1 x2 x3 x4 x5); (try clear y0 y1 y2 y3 y4 y5); have hF_ : K w wm g2 g7 gp pc [toR p, toR q] kd (V p.at_ p.en) (V q.at_ q.en) 2 sh := (by rw [hw]; exact F.out.set 3 (.int .u8 2) rfl); have h13_ : wm.heap[wr.heap.size]? = some (.cells (P6 q.at_ q.en q.star (m : Int) q.fr q.to_) 66 (0, 0)) := (by rw [hw]; exact blk_far h12_ (p := ⟨g7, 3, none⟩) (Ne.symm N12.out) _); have H12 := Aside0.mk h13_; replace F := Aside0.mk hF_; clear hF_ hw h12_ h13_ hb_; obtain ⟨tc0, tc1, tc2, tc3, tc4⟩ := t5_cells F.out.h7; obtain ⟨x0, x1, x2, x3, x4, x5⟩ := F.out.part 0 rfl; obtain ⟨y0, y1, y2, y3, y4, y5⟩ := F.out.part 1 rfl; simp only [toR, Nat.zero_mul, Nat.zero_add, Nat.one_mul, Nat.reduceAdd] at x0 x1 x2 x3 x4 x5 y0 y1 y2 y3 y4 y5; obtain ⟨z0, z1, z2, z3, z4, z5⟩ := p6_cells H12.out) | (go_at_call 31; (with_reducible refine (vivariumref04_worth.calls kw (s.extract q.fr q.to_) (V q.fr q.to_) _ (HV.out _ _ GQ.out.o3 GQ.out.o4)).mono ?_); rintro en_ wn ⟨rfl, nd, rfl⟩; (try clear tc0 tc1 tc2 tc3 tc4); (try clear x0 x1 x2 x3 x4 x5); (try clear y0 y1 y2 y3 y4 y5); clear z0 z1 z2 z3 z4 z5; replace H12 := Aside0.mk (blk_drewN H12.out nd); replace F := Aside0.mk (F.out.drewN nd); generalize World.drewN _ nd = wn at F H12 ⊢; obtain ⟨tc0, tc1, tc2, tc3, tc4⟩ := t5_cells F.out.h7; obtain ⟨x0, x1, x2, x3, x4, x5⟩ := F.out.part 0 rfl; obtain ⟨y0, y1, y2, y3, y4, y5⟩ := F.out.part 1 rfl; simp only [toR, Nat.zero_mul, Nat.zero_add, Nat.one_mul, Nat.reduceAdd] at x0 x1 x2 x3 x4 x5 y0 y1 y2 y3 y4 y5; obtain ⟨z0, z1, z2, z3, z4, z5⟩ := p6_cells H12.out) | ((with_reducible refine gate_store (t := 3) (p := 161) (v := .tmp 160) rfl ?_); obtain ⟨r0, r1, r2, r3, r4, _⟩ := froz F.out.h7; refine store_event (w1 := ?wwL10wo) ?hgL10wo rfl rfl ?hrL10wo ?_; (case hgL10wo => rfl); (case hrL10wo => go_simp; rfl); intro wo hw; clear r0 r1 r2 r3 r4; (try clear tc0 tc1 tc2 tc3 tc4); (try clear x0 x1 x2 x3 x4 x5); (try clear y0 y1 y2 y3 y4 y5); clear z0 z1 z2 z3 z4 z5; have hF_ : K w wo g2 g7 gp pc [toR p, toR q] kd (V p.at_ p.en) (V q.at_ q.en) 2 (V q.fr q.to_) := (by rw [hw]; exact F.out.set 4 (.int .i64 (V q.fr q.to_)) rfl); have h12_ : wo.heap[wr.heap.size]? = some (.cells (P6 q.at_ q.en q.star (m : Int) q.fr q.to_) 66 (0, 0)) := (by rw [hw]; exact blk_far H12.out (p := ⟨g7, 4, none⟩) (Ne.symm N12.out) _); replace H12 := Aside0.mk h12_; replace F := Aside0.mk hF_; clear hF_ hw h12_; obtain ⟨tc0, tc1, tc2, tc3, tc4⟩ := t5_cells F.out.h7; obtain ⟨x0, x1, x2, x3, x4, x5⟩ := F.out.part 0 rfl; obtain ⟨y0, y1, y2, y3, y4, y5⟩ := F.out.part 1 rfl; simp only [toR, Nat.zero_mul, Nat.zero_add, Nat.one_mul, Nat.reduceAdd] at x0 x1 x2 x3 x4 x5 y0 y1 y2 y3 y4 y5; obtain ⟨z0, z1, z2, z3, z4, z5⟩ := p6_cells H12.out) | ((with_reducible refine gate_store (t := 3) (p := 170) (v := .tmp 169) rfl ?_); obtain ⟨r0, r1, r2, r3, r4, _⟩ := froz F.out.h7; refine store_event (w1 := ?wwL10wq) ?hgL10wq rfl rfl ?hrL10wq ?_; (case hgL10wq => rfl); (case hrL10wq => go_simp; rfl); intro wq hw; clear r0 r1 r2 r3 r4; (try clear tc0 tc1 tc2 tc3 tc4); (try clear x0 x1 x2 x3 x4 x5); (try clear y0 y1 y2 y3 y4 y5); clear z0 z1 z2 z3 z4 z5; have hF_ : K w wq g2 g7 gp pc [toR p, toR q] kd (V p.at_ p.en) (V q.at_ q.en) 2 (-(V q.fr q.to_)) := (by rw [hw]; (try rw [HNG.out]); exact F.out.set 4 (.int .i64 (-(V q.fr q.to_))) rfl); have h12_ : wq.heap[wr.heap.size]? = some (.cells (P6 q.at_ q.en q.star (m : Int) q.fr q.to_) 66 (0, 0)) := (by rw [hw]; exact blk_far H12.out (p := ⟨g7, 4, none⟩) (Ne.symm N12.out) _); replace H12 := Aside0.mk h12_; replace F := Aside0.mk hF_; clear hF_ hw h12_; obtain ⟨tc0, tc1, tc2, tc3, tc4⟩ := t5_cells F.out.h7; obtain ⟨x0, x1, x2, x3, x4, x5⟩ := F.out.part 0 rfl; obtain ⟨y0, y1, y2, y3, y4, y5⟩ := F.out.part 1 rfl; simp only [toR, Nat.zero_mul, Nat.zero_add, Nat.one_mul, Nat.reduceAdd] at x0 x1 x2 x3 x4 x5 y0 y1 y2 y3 y4 y5; obtain ⟨z0, z1, z2, z3, z4, z5⟩ := p6_cells H12.out))
                            go_roundg 1
                            case measure => have := hk.out; omega
                            case rel => exact ⟨2, 2, (-(V q.fr q.to_)), by go_num, ⟨by omega, by omega⟩, ⟨(congrArg (turnsV V s ([p, q].drop 2) ((2 : Nat) : Int)) hst).symm.trans ht.out⟩, F⟩
                        · have cMb : (bt s (m : Int) == 45) = false := by simpa using cM
                          have hst : (if q.star < 0 ∧ q.sign < 0 then (tu, sh) else (1 + ((1 : Nat) : Int), if 0 ≤ q.sign then (if bt s q.sign = 45 then -(V q.fr q.to_) else (V q.fr q.to_)) else sh)) = ((2, (V q.fr q.to_)) : Int × Int) := by rw [hm, if_neg (fun h => cG h.2), if_pos (by omega), if_neg cM]; rfl
                          by_cases cS : q.star < 0
                          · have cSb : decide ((0 : Int) ≤ q.star) = false := decide_eq_false (by omega)
                            have N12 := Aside0.mk (Nat.ne_of_lt (blk_lt F.out.h7))
                            obtain ⟨tc0, tc1, tc2, tc3, tc4⟩ := t5_cells F.out.h7
                            obtain ⟨x0, x1, x2, x3, x4, x5⟩ := F.out.part 0 rfl
                            obtain ⟨y0, y1, y2, y3, y4, y5⟩ := F.out.part 1 rfl
                            simp only [toR, Nat.zero_mul, Nat.zero_add, Nat.one_mul, Nat.reduceAdd] at x0 x1 x2 x3 x4 x5 y0 y1 y2 y3 y4 y5
                            rw [hm] at y3
                            go_wp2_with (first | ((with_reducible refine gate_store (t := 5) (p := 150) (v := .tmp 149) rfl ?_); have hb_ := below_alloc (Below.refl wr.heap.size wr) (.cells #[.int .i64 (q.at_ : Int), .int .i64 (q.en : Int), .int .i64 q.star, .int .i64 (m : Int), .int .i64 (q.fr : Int), .int .i64 (q.to_ : Int)] 66); have h12_ := blk_new wr (.cells #[.int .i64 (q.at_ : Int), .int .i64 (q.en : Int), .int .i64 q.star, .int .i64 (m : Int), .int .i64 (q.fr : Int), .int .i64 (q.to_ : Int)] 66); generalize wr.alloc (.cells #[.int .i64 (q.at_ : Int), .int .i64 (q.en : Int), .int .i64 q.star, .int .i64 (m : Int), .int .i64 (q.fr : Int), .int .i64 (q.to_ : Int)] 66) = wx at hb_ h12_ ⊢; (try clear tc0 tc1 tc2 tc3 tc4); (try clear x0 x1 x2 x3 x4 x5); (try clear y0 y1 y2 y3 y4 y5); replace F := Aside0.mk (F.out.on hb_); obtain ⟨tc0, tc1, tc2, tc3, tc4⟩ := t5_cells F.out.h7; obtain ⟨x0, x1, x2, x3, x4, x5⟩ := F.out.part 0 rfl; obtain ⟨y0, y1, y2, y3, y4, y5⟩ := F.out.part 1 rfl; simp only [toR, Nat.zero_mul, Nat.zero_add, Nat.one_mul, Nat.reduceAdd] at x0 x1 x2 x3 x4 x5 y0 y1 y2 y3 y4 y5; obtain ⟨r0, r1, r2, r3, r4, _⟩ := froz F.out.h7; refine store_event (w1 := ?wwL11wm) ?hgL11wm rfl rfl ?hrL11wm ?_; (case hgL11wm => rfl); (case hrL11wm => go_simp; rfl); intro wm hw; clear r0 r1 r2 r3 r4; (try clear tc0 tc1 tc2 tc3 tc4); (try clear x0 x1 x2 x3 x4 x5); (try clear y0 y1 y2 y3 y4 y5); have hF_ : K w wm g2 g7 gp pc [toR p, toR q] kd (V p.at_ p.en) (V q.at_ q.en) 2 sh := (by rw [hw]; exact F.out.set 3 (.int .u8 2) rfl); have h13_ : wm.heap[wr.heap.size]? = some (.cells (P6 q.at_ q.en q.star (m : Int) q.fr q.to_) 66 (0, 0)) := (by rw [hw]; exact blk_far h12_ (p := ⟨g7, 3, none⟩) (Ne.symm N12.out) _); have H12 := Aside0.mk h13_; replace F := Aside0.mk hF_; clear hF_ hw h12_ h13_ hb_; obtain ⟨tc0, tc1, tc2, tc3, tc4⟩ := t5_cells F.out.h7; obtain ⟨x0, x1, x2, x3, x4, x5⟩ := F.out.part 0 rfl; obtain ⟨y0, y1, y2, y3, y4, y5⟩ := F.out.part 1 rfl; simp only [toR, Nat.zero_mul, Nat.zero_add, Nat.one_mul, Nat.reduceAdd] at x0 x1 x2 x3 x4 x5 y0 y1 y2 y3 y4 y5; obtain ⟨z0, z1, z2, z3, z4, z5⟩ := p6_cells H12.out) | (go_at_call 31; (with_reducible refine (vivariumref04_worth.calls kw (s.extract q.fr q.to_) (V q.fr q.to_) _ (HV.out _ _ GQ.out.o3 GQ.out.o4)).mono ?_); rintro en_ wn ⟨rfl, nd, rfl⟩; (try clear tc0 tc1 tc2 tc3 tc4); (try clear x0 x1 x2 x3 x4 x5); (try clear y0 y1 y2 y3 y4 y5); clear z0 z1 z2 z3 z4 z5; replace H12 := Aside0.mk (blk_drewN H12.out nd); replace F := Aside0.mk (F.out.drewN nd); generalize World.drewN _ nd = wn at F H12 ⊢; obtain ⟨tc0, tc1, tc2, tc3, tc4⟩ := t5_cells F.out.h7; obtain ⟨x0, x1, x2, x3, x4, x5⟩ := F.out.part 0 rfl; obtain ⟨y0, y1, y2, y3, y4, y5⟩ := F.out.part 1 rfl; simp only [toR, Nat.zero_mul, Nat.zero_add, Nat.one_mul, Nat.reduceAdd] at x0 x1 x2 x3 x4 x5 y0 y1 y2 y3 y4 y5; obtain ⟨z0, z1, z2, z3, z4, z5⟩ := p6_cells H12.out) | ((with_reducible refine gate_store (t := 3) (p := 161) (v := .tmp 160) rfl ?_); obtain ⟨r0, r1, r2, r3, r4, _⟩ := froz F.out.h7; refine store_event (w1 := ?wwL11wo) ?hgL11wo rfl rfl ?hrL11wo ?_; (case hgL11wo => rfl); (case hrL11wo => go_simp; rfl); intro wo hw; clear r0 r1 r2 r3 r4; (try clear tc0 tc1 tc2 tc3 tc4); (try clear x0 x1 x2 x3 x4 x5); (try clear y0 y1 y2 y3 y4 y5); clear z0 z1 z2 z3 z4 z5; have hF_ : K w wo g2 g7 gp pc [toR p, toR q] kd (V p.at_ p.en) (V q.at_ q.en) 2 (V q.fr q.to_) := (by rw [hw]; exact F.out.set 4 (.int .i64 (V q.fr q.to_)) rfl); have h12_ : wo.heap[wr.heap.size]? = some (.cells (P6 q.at_ q.en q.star (m : Int) q.fr q.to_) 66 (0, 0)) := (by rw [hw]; exact blk_far H12.out (p := ⟨g7, 4, none⟩) (Ne.symm N12.out) _); replace H12 := Aside0.mk h12_; replace F := Aside0.mk hF_; clear hF_ hw h12_; obtain ⟨tc0, tc1, tc2, tc3, tc4⟩ := t5_cells F.out.h7; obtain ⟨x0, x1, x2, x3, x4, x5⟩ := F.out.part 0 rfl; obtain ⟨y0, y1, y2, y3, y4, y5⟩ := F.out.part 1 rfl; simp only [toR, Nat.zero_mul, Nat.zero_add, Nat.one_mul, Nat.reduceAdd] at x0 x1 x2 x3 x4 x5 y0 y1 y2 y3 y4 y5; obtain ⟨z0, z1, z2, z3, z4, z5⟩ := p6_cells H12.out))
                            go_roundg 1
                            case measure => have := hk.out; omega
                            case rel => exact ⟨2, 2, (V q.fr q.to_), by go_num, ⟨by omega, by omega⟩, ⟨(congrArg (turnsV V s ([p, q].drop 2) ((2 : Nat) : Int)) hst).symm.trans ht.out⟩, F⟩
                          · have cSb : decide ((0 : Int) ≤ q.star) = true := decide_eq_true (by omega)
                            have N12 := Aside0.mk (Nat.ne_of_lt (blk_lt F.out.h7))
                            obtain ⟨tc0, tc1, tc2, tc3, tc4⟩ := t5_cells F.out.h7
                            obtain ⟨x0, x1, x2, x3, x4, x5⟩ := F.out.part 0 rfl
                            obtain ⟨y0, y1, y2, y3, y4, y5⟩ := F.out.part 1 rfl
                            simp only [toR, Nat.zero_mul, Nat.zero_add, Nat.one_mul, Nat.reduceAdd] at x0 x1 x2 x3 x4 x5 y0 y1 y2 y3 y4 y5
                            rw [hm] at y3
                            go_wp2_with (first | ((with_reducible refine gate_store (t := 5) (p := 150) (v := .tmp 149) rfl ?_); have hb_ := below_alloc (Below.refl wr.heap.size wr) (.cells #[.int .i64 (q.at_ : Int), .int .i64 (q.en : Int), .int .i64 q.star, .int .i64 (m : Int), .int .i64 (q.fr : Int), .int .i64 (q.to_ : Int)] 66); have h12_ := blk_new wr (.cells #[.int .i64 (q.at_ : Int), .int .i64 (q.en : Int), .int .i64 q.star, .int .i64 (m : Int), .int .i64 (q.fr : Int), .int .i64 (q.to_ : Int)] 66); generalize wr.alloc (.cells #[.int .i64 (q.at_ : Int), .int .i64 (q.en : Int), .int .i64 q.star, .int .i64 (m : Int), .int .i64 (q.fr : Int), .int .i64 (q.to_ : Int)] 66) = wx at hb_ h12_ ⊢; (try clear tc0 tc1 tc2 tc3 tc4); (try clear x0 x1 x2 x3 x4 x5); (try clear y0 y1 y2 y3 y4 y5); replace F := Aside0.mk (F.out.on hb_); obtain ⟨tc0, tc1, tc2, tc3, tc4⟩ := t5_cells F.out.h7; obtain ⟨x0, x1, x2, x3, x4, x5⟩ := F.out.part 0 rfl; obtain ⟨y0, y1, y2, y3, y4, y5⟩ := F.out.part 1 rfl; simp only [toR, Nat.zero_mul, Nat.zero_add, Nat.one_mul, Nat.reduceAdd] at x0 x1 x2 x3 x4 x5 y0 y1 y2 y3 y4 y5; obtain ⟨r0, r1, r2, r3, r4, _⟩ := froz F.out.h7; refine store_event (w1 := ?wwL12wm) ?hgL12wm rfl rfl ?hrL12wm ?_; (case hgL12wm => rfl); (case hrL12wm => go_simp; rfl); intro wm hw; clear r0 r1 r2 r3 r4; (try clear tc0 tc1 tc2 tc3 tc4); (try clear x0 x1 x2 x3 x4 x5); (try clear y0 y1 y2 y3 y4 y5); have hF_ : K w wm g2 g7 gp pc [toR p, toR q] kd (V p.at_ p.en) (V q.at_ q.en) 2 sh := (by rw [hw]; exact F.out.set 3 (.int .u8 2) rfl); have h13_ : wm.heap[wr.heap.size]? = some (.cells (P6 q.at_ q.en q.star (m : Int) q.fr q.to_) 66 (0, 0)) := (by rw [hw]; exact blk_far h12_ (p := ⟨g7, 3, none⟩) (Ne.symm N12.out) _); have H12 := Aside0.mk h13_; replace F := Aside0.mk hF_; clear hF_ hw h12_ h13_ hb_; obtain ⟨tc0, tc1, tc2, tc3, tc4⟩ := t5_cells F.out.h7; obtain ⟨x0, x1, x2, x3, x4, x5⟩ := F.out.part 0 rfl; obtain ⟨y0, y1, y2, y3, y4, y5⟩ := F.out.part 1 rfl; simp only [toR, Nat.zero_mul, Nat.zero_add, Nat.one_mul, Nat.reduceAdd] at x0 x1 x2 x3 x4 x5 y0 y1 y2 y3 y4 y5; obtain ⟨z0, z1, z2, z3, z4, z5⟩ := p6_cells H12.out) | (go_at_call 31; (with_reducible refine (vivariumref04_worth.calls kw (s.extract q.fr q.to_) (V q.fr q.to_) _ (HV.out _ _ GQ.out.o3 GQ.out.o4)).mono ?_); rintro en_ wn ⟨rfl, nd, rfl⟩; (try clear tc0 tc1 tc2 tc3 tc4); (try clear x0 x1 x2 x3 x4 x5); (try clear y0 y1 y2 y3 y4 y5); clear z0 z1 z2 z3 z4 z5; replace H12 := Aside0.mk (blk_drewN H12.out nd); replace F := Aside0.mk (F.out.drewN nd); generalize World.drewN _ nd = wn at F H12 ⊢; obtain ⟨tc0, tc1, tc2, tc3, tc4⟩ := t5_cells F.out.h7; obtain ⟨x0, x1, x2, x3, x4, x5⟩ := F.out.part 0 rfl; obtain ⟨y0, y1, y2, y3, y4, y5⟩ := F.out.part 1 rfl; simp only [toR, Nat.zero_mul, Nat.zero_add, Nat.one_mul, Nat.reduceAdd] at x0 x1 x2 x3 x4 x5 y0 y1 y2 y3 y4 y5; obtain ⟨z0, z1, z2, z3, z4, z5⟩ := p6_cells H12.out) | ((with_reducible refine gate_store (t := 3) (p := 161) (v := .tmp 160) rfl ?_); obtain ⟨r0, r1, r2, r3, r4, _⟩ := froz F.out.h7; refine store_event (w1 := ?wwL12wo) ?hgL12wo rfl rfl ?hrL12wo ?_; (case hgL12wo => rfl); (case hrL12wo => go_simp; rfl); intro wo hw; clear r0 r1 r2 r3 r4; (try clear tc0 tc1 tc2 tc3 tc4); (try clear x0 x1 x2 x3 x4 x5); (try clear y0 y1 y2 y3 y4 y5); clear z0 z1 z2 z3 z4 z5; have hF_ : K w wo g2 g7 gp pc [toR p, toR q] kd (V p.at_ p.en) (V q.at_ q.en) 2 (V q.fr q.to_) := (by rw [hw]; exact F.out.set 4 (.int .i64 (V q.fr q.to_)) rfl); have h12_ : wo.heap[wr.heap.size]? = some (.cells (P6 q.at_ q.en q.star (m : Int) q.fr q.to_) 66 (0, 0)) := (by rw [hw]; exact blk_far H12.out (p := ⟨g7, 4, none⟩) (Ne.symm N12.out) _); replace H12 := Aside0.mk h12_; replace F := Aside0.mk hF_; clear hF_ hw h12_; obtain ⟨tc0, tc1, tc2, tc3, tc4⟩ := t5_cells F.out.h7; obtain ⟨x0, x1, x2, x3, x4, x5⟩ := F.out.part 0 rfl; obtain ⟨y0, y1, y2, y3, y4, y5⟩ := F.out.part 1 rfl; simp only [toR, Nat.zero_mul, Nat.zero_add, Nat.one_mul, Nat.reduceAdd] at x0 x1 x2 x3 x4 x5 y0 y1 y2 y3 y4 y5; obtain ⟨z0, z1, z2, z3, z4, z5⟩ := p6_cells H12.out))
                            go_roundg 1
                            case measure => have := hk.out; omega
                            case rel => exact ⟨2, 2, (V q.fr q.to_), by go_num, ⟨by omega, by omega⟩, ⟨(congrArg (turnsV V s ([p, q].drop 2) ((2 : Nat) : Int)) hst).symm.trans ht.out⟩, F⟩
                    · obtain ⟨tc0, tc1, tc2, tc3, tc4⟩ := t5_cells F.out.h7
                      obtain ⟨x0, x1, x2, x3, x4, x5⟩ := F.out.part 0 rfl
                      obtain ⟨y0, y1, y2, y3, y4, y5⟩ := F.out.part 1 rfl
                      simp only [toR, Nat.zero_mul, Nat.zero_add, Nat.one_mul, Nat.reduceAdd] at x0 x1 x2 x3 x4 x5 y0 y1 y2 y3 y4 y5
                      go_wp2_with (first | ((with_reducible refine gate_store (t := 23) (p := 2) (v := .tmp 171) rfl ?_); obtain ⟨r0, r1, r2, r3, r4, _⟩ := froz F.out.h2; obtain ⟨s0, s1, s2, s3, s4⟩ := t5_cells F.out.h2; refine store_event (w1 := ?wwwz) ?hgwz rfl rfl ?hrwz ?_; (case hgwz => rfl); (case hrwz => go_simp; rfl); intro wz hw; clear r0 r1 r2 r3 r4 s0 s1 s2 s3 s4; (try clear tc0 tc1 tc2 tc3 tc4); (try clear x0 x1 x2 x3 x4 x5); (try clear y0 y1 y2 y3 y4 y5); have hD := F.out.done (a' := kd) (b' := (V p.at_ p.en)) (c' := (V q.at_ q.en)) (d' := tu) (e' := sh); rw [← hw] at hD; have FD := Aside0.mk hD; clear hD hw F))
                      have e_ : (tu, sh) = turnsV V s [p, q] 0 (0, 0) := ht.out
                      refine bodyPost_ret (results_ctt rfl _ _ g2 23 (T5 kd (V p.at_ p.en) (V q.at_ q.en) tu sh) (0, 0) _ rfl FD.out.1 Try.underlying23 rfl (by kernel_rfl)) rfl ?_
                      exact ⟨by rw [hR.out, if_neg (show ¬ (V p.at_ p.en) > 65536 by have := C1.out; omega), if_neg (show ¬ (V q.at_ q.en) > 65536 by have := C2.out; omega), if_neg C3.out, if_neg C4.out, ← e_]; rfl, FD.out.2⟩
theorem r_2sideW (s : ByteArray) (hs : s.size ≤ 1048576) (kf : Nat) (kd fa : Int) (p : Pt) (q : Pt) (hp : Good s p) (hq : Good s q) (hf : vivariumref04_form.f kf s = some (kd, [toR p, toR q], fa, 0)) (kw : Nat) (V : Nat → Nat → Int) (hV : ∀ a b, a ≤ b → b ≤ s.size → vivariumref04_worth.f kw (s.extract a b) = some (V a b)) (c1 : (V p.at_ p.en) > 65536) (w : World) :
    Calls Try.prog 17 #[.string s] w fun e w' => e = .returned (.tuple #[.agg (T5 0 0 0 0 0), .int .i64 p.at_, .int .i64 41]) ∧ Below w.heap.size w w' := by
  exact r_2 s hs kf kd fa p q hp hq hf kw V hV 0 0 0 0 true false (fun h0 _ _ _ => absurd c1 h0) (fun h0 _ _ _ => absurd c1 h0) (fun h0 _ _ _ => absurd c1 h0) _ (by rw [if_pos c1]) w
theorem r_2sideH (s : ByteArray) (hs : s.size ≤ 1048576) (kf : Nat) (kd fa : Int) (p : Pt) (q : Pt) (hp : Good s p) (hq : Good s q) (hf : vivariumref04_form.f kf s = some (kd, [toR p, toR q], fa, 0)) (kw : Nat) (V : Nat → Nat → Int) (hV : ∀ a b, a ≤ b → b ≤ s.size → vivariumref04_worth.f kw (s.extract a b) = some (V a b)) (c1 : ¬ (V p.at_ p.en) > 65536) (c2 : (V q.at_ q.en) > 65536) (w : World) :
    Calls Try.prog 17 #[.string s] w fun e w' => e = .returned (.tuple #[.agg (T5 0 0 0 0 0), .int .i64 q.at_, .int .i64 41]) ∧ Below w.heap.size w w' := by
  exact r_2 s hs kf kd fa p q hp hq hf kw V hV 0 0 0 0 true false (fun _ h1 _ _ => absurd c2 h1) (fun _ h1 _ _ => absurd c2 h1) (fun _ h1 _ _ => absurd c2 h1) _ (by rw [if_neg c1, if_pos c2]) w
theorem r_2endW (s : ByteArray) (hs : s.size ≤ 1048576) (kf : Nat) (kd fa : Int) (p : Pt) (q : Pt) (hp : Good s p) (hq : Good s q) (hf : vivariumref04_form.f kf s = some (kd, [toR p, toR q], fa, 0)) (kw : Nat) (V : Nat → Nat → Int) (hV : ∀ a b, a ≤ b → b ≤ s.size → vivariumref04_worth.f kw (s.extract a b) = some (V a b)) (c1 : ¬ (V p.at_ p.en) > 65536) (c2 : ¬ (V q.at_ q.en) > 65536) (c3 : 3 ≤ kd ∧ (V p.at_ p.en) = 0) (w : World) :
    Calls Try.prog 17 #[.string s] w fun e w' => e = .returned (.tuple #[.agg (T5 0 0 0 0 0), .int .i64 p.at_, .int .i64 42]) ∧ Below w.heap.size w w' := by
  exact r_2 s hs kf kd fa p q hp hq hf kw V hV 0 0 0 0 true false (fun _ _ h2 _ => absurd c3 h2) (fun _ _ h2 _ => absurd c3 h2) (fun _ _ h2 _ => absurd c3 h2) _ (by rw [if_neg c1, if_neg c2, if_pos c3]) w
theorem r_2endH (s : ByteArray) (hs : s.size ≤ 1048576) (kf : Nat) (kd fa : Int) (p : Pt) (q : Pt) (hp : Good s p) (hq : Good s q) (hf : vivariumref04_form.f kf s = some (kd, [toR p, toR q], fa, 0)) (kw : Nat) (V : Nat → Nat → Int) (hV : ∀ a b, a ≤ b → b ≤ s.size → vivariumref04_worth.f kw (s.extract a b) = some (V a b)) (c1 : ¬ (V p.at_ p.en) > 65536) (c2 : ¬ (V q.at_ q.en) > 65536) (c3 : ¬ (3 ≤ kd ∧ (V p.at_ p.en) = 0)) (c4 : 3 ≤ kd ∧ (V q.at_ q.en) = 0) (w : World) :
    Calls Try.prog 17 #[.string s] w fun e w' => e = .returned (.tuple #[.agg (T5 0 0 0 0 0), .int .i64 q.at_, .int .i64 42]) ∧ Below w.heap.size w w' := by
  exact r_2 s hs kf kd fa p q hp hq hf kw V hV 0 0 0 0 true false (fun _ _ _ h3 => absurd c4 h3) (fun _ _ _ h3 => absurd c4 h3) (fun _ _ _ h3 => absurd c4 h3) _ (by rw [if_neg c1, if_neg c2, if_neg c3, if_pos c4]) w
theorem r_2twist (s : ByteArray) (hs : s.size ≤ 1048576) (kf : Nat) (kd fa : Int) (p : Pt) (q : Pt) (hp : Good s p) (hq : Good s q) (hf : vivariumref04_form.f kf s = some (kd, [toR p, toR q], fa, 0)) (kw : Nat) (V : Nat → Nat → Int) (hV : ∀ a b, a ≤ b → b ≤ s.size → vivariumref04_worth.f kw (s.extract a b) = some (V a b)) (c1 : ¬ (V p.at_ p.en) > 65536) (c2 : ¬ (V q.at_ q.en) > 65536) (c3 : ¬ (3 ≤ kd ∧ (V p.at_ p.en) = 0)) (c4 : ¬ (3 ≤ kd ∧ (V q.at_ q.en) = 0)) (kt : Nat) (ta : Int) (tb : Bool) (ht : vivariumref04_twist.f kt s kd [toR p, toR q] = some (ta, tb)) (hb : tb = true) (w : World) :
    Calls Try.prog 17 #[.string s] w fun e w' => e = .returned (.tuple #[.agg (T5 0 0 0 0 0), .int .i64 ta, .int .i64 44]) ∧ Below w.heap.size w w' := by
  subst hb; exact r_2 s hs kf kd fa p q hp hq hf kw V hV kt 0 ta 0 true false (fun _ _ _ _ => ht) (fun _ _ _ _ h => by cases h) (fun _ _ _ _ h => by cases h) _ (by rw [if_neg c1, if_neg c2, if_neg c3, if_neg c4, if_pos rfl]) w
theorem r_2shift (s : ByteArray) (hs : s.size ≤ 1048576) (kf : Nat) (kd fa : Int) (p : Pt) (q : Pt) (hp : Good s p) (hq : Good s q) (hf : vivariumref04_form.f kf s = some (kd, [toR p, toR q], fa, 0)) (kw : Nat) (V : Nat → Nat → Int) (hV : ∀ a b, a ≤ b → b ≤ s.size → vivariumref04_worth.f kw (s.extract a b) = some (V a b)) (c1 : ¬ (V p.at_ p.en) > 65536) (c2 : ¬ (V q.at_ q.en) > 65536) (c3 : ¬ (3 ≤ kd ∧ (V p.at_ p.en) = 0)) (c4 : ¬ (3 ≤ kd ∧ (V q.at_ q.en) = 0)) (kt : Nat) (ta : Int) (tb : Bool) (ht : vivariumref04_twist.f kt s kd [toR p, toR q] = some (ta, tb)) (hb : tb = false) (ks : Nat) (sa : Int) (sb : Bool) (hsf : vivariumref04_shift.f ks s kd [toR p, toR q] (V p.at_ p.en) (V q.at_ q.en) = some (sa, sb)) (hb2 : sb = true) (w : World) :
    Calls Try.prog 17 #[.string s] w fun e w' => e = .returned (.tuple #[.agg (T5 0 0 0 0 0), .int .i64 sa, .int .i64 43]) ∧ Below w.heap.size w w' := by
  subst hb; subst hb2; exact r_2 s hs kf kd fa p q hp hq hf kw V hV kt ks ta sa false true (fun _ _ _ _ => ht) (fun _ _ _ _ _ => hsf) (fun _ _ _ _ _ h => by cases h) _ (by rw [if_neg c1, if_neg c2, if_neg c3, if_neg c4, if_neg Bool.false_ne_true, if_pos rfl]) w
theorem r_2ok (s : ByteArray) (hs : s.size ≤ 1048576) (kf : Nat) (kd fa : Int) (p : Pt) (q : Pt) (hp : Good s p) (hq : Good s q) (hf : vivariumref04_form.f kf s = some (kd, [toR p, toR q], fa, 0)) (kw : Nat) (V : Nat → Nat → Int) (hV : ∀ a b, a ≤ b → b ≤ s.size → vivariumref04_worth.f kw (s.extract a b) = some (V a b)) (c1 : ¬ (V p.at_ p.en) > 65536) (c2 : ¬ (V q.at_ q.en) > 65536) (c3 : ¬ (3 ≤ kd ∧ (V p.at_ p.en) = 0)) (c4 : ¬ (3 ≤ kd ∧ (V q.at_ q.en) = 0)) (kt : Nat) (ta : Int) (tb : Bool) (ht : vivariumref04_twist.f kt s kd [toR p, toR q] = some (ta, tb)) (hb : tb = false) (ks : Nat) (sa : Int) (sb : Bool) (hsf : vivariumref04_shift.f ks s kd [toR p, toR q] (V p.at_ p.en) (V q.at_ q.en) = some (sa, sb)) (hb2 : sb = false) (hVr : ∀ a b, 0 ≤ V a b ∧ V a b ≤ 1048577) (w : World) :
    Calls Try.prog 17 #[.string s] w fun e w' => e = .returned (.tuple #[.agg (T5 kd (V p.at_ p.en) (V q.at_ q.en) (turnsV V s [p, q] 0 (0, 0)).1 (turnsV V s [p, q] 0 (0, 0)).2), .int .i64 0, .int .i64 0]) ∧ Below w.heap.size w w' := by
  subst hb; subst hb2; exact r_2 s hs kf kd fa p q hp hq hf kw V hV kt ks ta sa false false (fun _ _ _ _ => ht) (fun _ _ _ _ _ => hsf) (fun _ _ _ _ _ _ => hVr) _ (by rw [if_neg c1, if_neg c2, if_neg c3, if_neg c4, if_neg Bool.false_ne_true, if_neg Bool.false_ne_true]) w
end Go.Proofs.Ytmcidodpnhkdfaa.RefWalk
