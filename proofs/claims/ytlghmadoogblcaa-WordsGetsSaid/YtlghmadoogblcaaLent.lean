/- The rows that are lent: made, looked at again, written over. -/
import Derived.Test.YtlghmadoogblcaaStack
import Derived.Deep.LoopGhost
import Derived.Deep.Light
namespace Go.Proofs.Ytlghmadoogblcaa.Lent
open Go Go.RowKit Go.Proofs.YtlghmadoogblcaaW.PrintWords Go.Proofs.YtlghmadoogblcaaW.PrintLast Go.Proofs.YtlghmadoogblcaaW.PrintMore Go.Proofs.Ytlghmadoogblcaa.PS Go.Proofs.Ytlghmadoogblcaa.Bx Go.Proofs.Ytlghmadoogblcaa.Book
set_option linter.unusedVariables false
set_option linter.unusedSimpArgs false
theorem c_reads {w : World} {k : IntKind} {A : Option Addr} {n : Nat} {xs : List Int} (h : Kd.C (Kd.int k) w A n xs) : ReadsInt w k A n xs := by
  obtain ⟨h1, h2, h3⟩ := h
  refine ⟨h1, h2, fun hn => ?_⟩
  obtain ⟨ad, e, hc⟩ := h3 hn
  refine ⟨ad, e, fun j hj => ?_⟩
  obtain ⟨c, hl, hk, hcc⟩ := hc j (xs.getD j 0) (by rw [List.getD_eq_getElem?_getD, List.getElem?_eq_getElem (by omega)]; rfl)
  have hk' : c = [.int k (xs.getD j 0)] := hk
  subst hk'
  have := hcc 0 _ rfl
  have hs : (Kd.int k).sz = 1 := rfl
  rwa [hs, Nat.mul_one, Nat.add_zero] at this
/-- The marks behind a row. -/
def tail (k : Nat) : List Int := (List.range k).map fun i : Nat => 7777 + (i : Int)
theorem tail_length (k : Nat) : (tail k).length = k := by simp [tail]
theorem tail_succ (k : Nat) : tail k ++ [7777 + (k : Int)] = tail (k + 1) := by simp [tail, List.range_succ]
theorem rd_tail {xs : List Int} {y : Int} (h0 : 0 ≤ y) (h1 : y < 70) : rd (xs ++ tail 70) ((xs.length : Int) + y) = 7777 + y := by
  unfold rd
  rw [List.getD_eq_getElem?_getD, List.getElem?_append_right (by omega)]
  rw [show ((xs.length : Int) + y).toNat - xs.length = y.toNat by omega]
  have : y.toNat < 70 := by omega
  simp [tail, this]
  omega
theorem own_C_ {w : World} {base : Nat} {v : Value} {xs : List Int} (h : w.ownsRow base 22 1 v xs.length (nums .u64 xs)) : ∃ A c, v = .slice A xs.length c ∧ xs.length ≤ c ∧ Kd.C (Kd.int .u64) w A xs.length xs :=
  Kd.R_reads (Kd.R_of_own (h1 := fun _ => rfl) (ok := fun _ => True) h (fun _ _ => trivial))
/-- A row that was lent: its words and the marks behind them. -/
def LentIs (base : Nat) (W : World) (g c : Nat) (xs : List Int) : Prop := W.ownsRow base 22 1 (.slice (some ⟨g, 0, none⟩) (xs.length + 70) c) (xs.length + 70) (nums .u64 (xs ++ tail 70))
section
variable {base : Nat} {W W' : World} {g c : Nat} {xs : List Int}
theorem LentIs.on (h : LentIs base W g c xs) (hb : Below W.heap.size W W') : LentIs base W' g c xs := pw_own_below h hb
theorem LentIs.lower {base' : Nat} (h : LentIs base W g c xs) (hb : base' ≤ base) : LentIs base' W g c xs := own_weaken h hb
theorem LentIs.cap (h : LentIs base W g c xs) : xs.length + 70 ≤ c := own_le h
/-- The row in front. -/
theorem LentIs.own (h : LentIs base W g c xs) : W.ownsRow base 22 1 (.slice (some ⟨g, 0, none⟩) xs.length c) xs.length (nums .u64 xs) := by
  obtain ⟨h1, h2⟩ := h
  refine ⟨by simp [nums], .inr ?_⟩
  rcases h2 with ⟨h2, _⟩ | ⟨g', cap, cur, hv, hb, hg, hn, hm, hs, ht⟩
  · cases h2
  · injection hv with e1 e2 e3
    injection e1 with e1
    injection e1 with e1
    subst e1
    subst e3
    refine ⟨_, _, cur, rfl, hb, hg, by omega, hm, hs, ?_⟩
    have := congrArg (List.take xs.length) ht
    rw [List.take_take, nums_append, List.take_left' (by simp [nums])] at this
    rw [← this]
    congr 1
    omega
theorem LentIs.C (h : LentIs base W g c xs) : Kd.C (Kd.int .u64) W (some ⟨g, 0, none⟩) xs.length xs := by
  obtain ⟨A, c', e, hl, hC⟩ := own_C_ h.own
  cases e
  exact hC
end
set_option maxHeartbeats 4000000 in
set_option maxRecDepth 100000 in
theorem lent (n : Int) (A : Option Addr) (c : Nat) (xs : List Int) (w : World) (hC : Kd.C (Kd.int .u64) w A xs.length xs) (hl : xs.length ≤ c) (hm : xs.length ≤ 17592186043904) :
    Calls Try.prog 24 #[.agg #[.int .i64 n, .slice A xs.length c]] w fun e w' => ∃ g c', e = .returned (.agg #[.int .i64 n, .slice (some ⟨g, 0, none⟩) xs.length c']) ∧ LentIs w.heap.size w' g c' xs ∧ Below w.heap.size w w' := by
  have HC := Aside0.mk hC; have HL := Aside0.mk hl; have HM := Aside0.mk hm
  have hu := Try.underlying31
  have HN := Aside0.mk (own_nil w w.heap.size 22 1)
  clear hC hl hm
  go_enter Try.func24, Try.ntmps24
  go_wp2_with (first
    | ((with_reducible refine gate_dst (N := 1) rfl ?_); refine box_event ?hg1 (N := 1) ?hd1 (cs := #[.int .i64 n, .slice A xs.length c]) (t := 31) ?hr1 ?_; (case hd1 => rfl); (case hg1 => rfl); (case hr1 => first | (go_simp; done) | (go_simp; rfl)); intro t1 g1 W1 x1 hb1)
    | ((with_reducible refine gate_dst (N := 2) rfl ?_); refine box_event ?hg2 (N := 2) ?hd2 (cs := #[.int .i64 0, .slice none 0 0]) (t := 31) ?hr2 ?_; (case hd2 => rfl); (case hg2 => rfl); (case hr2 => first | (go_simp; done) | (go_simp; rfl)); intro t2 g2 W2 x2 hb2; have HB := Aside0.mk (chain_ hb1 hb2); have H1x := Aside0.mk ((hb2.block t1 (blk_lt x1)).trans x1); have H2x := Aside0.mk x2; have E1 := Aside0.mk (show w.heap.size ≤ t1 ∧ w.heap.size ≤ t2 by have := hb1.size; omega); have i0_ := (blk_cell H1x.out 0).trans (show ((#[Value.int .i64 n, Value.slice A xs.length c] : Array Value)[0]?) = some (.int .i64 n) from rfl); have i1_ := (blk_cell H1x.out 1).trans (show ((#[Value.int .i64 n, Value.slice A xs.length c] : Array Value)[1]?) = some (.slice A xs.length c) from rfl); have NE := Aside0.mk (show t1 ≠ t2 by have := blk_lt x1; omega); clear g1 g2 x1 x2 hb1 hb2)
    | (at_builtin; refine print_append_row (w0 := w) (W := W2) w.heap.size rfl (.tmp 5) (.tmp 7) 29 22 .u64 8 rfl Try.underlying29 (by kernel_rfl) (by decide) (.slice none 0 0) [] xs A xs.length c rfl rfl (own_nil _ _ _ _) (c_reads (Kd.C_below HC.out HB.out)) HB.out HB.out.size ?c1 ?_; (case c1 => go_light; have := HM.out; simp; omega); intro v1 w1 ho_ hb_ hg_ hat_; rw [List.nil_append] at ho_; have HO := Aside0.mk ho_; have H1y := Aside0.mk (blk_grown H1x.out hg_ (by simp [Value.ownBlock])); have H2y := Aside0.mk (blk_grown H2x.out hg_ (by simp [Value.ownBlock])); clear i0_ i1_ H1x H2x HB; have H1x := H1y; have H2x := H2y; have HB := Aside0.mk hb_; clear H1y H2y ho_ hb_ hg_ hat_))
  go_loopg [3, 4] 70 (fun g s3 s4 wr => ∃ y : Int, s4 = .int .i64 y ∧ Aside0 (0 ≤ y ∧ (g : Int) = 70 - y) ∧ Aside0 (wr.ownsRow w.heap.size 22 1 s3 (xs.length + y.toNat) (nums .u64 (xs ++ tail y.toNat))) ∧ Aside0 (wr.heap[t1]? = some (.cells #[.int .i64 n, .slice A xs.length c] 31 (0, 0))) ∧ Aside0 (wr.heap[t2]? = some (.cells #[.int .i64 0, .slice none 0 0] 31 (0, 0))) ∧ Aside0 (Below w.heap.size w wr))
  case atStart => exact ⟨0, rfl, ⟨by omega, by omega⟩, ⟨by have h_ := HO.out; simpa [tail] using h_⟩, H1x, H2x, HB⟩
  case round =>
    clear HO H1x H2x HB
    obtain ⟨y, rfl, HY, HO, H1x, H2x, HB⟩ := hrel
    by_cases q : y < 70
    · have p : 0 ≤ y := HY.out.1
      have w1_ : wrap64 (y + 1) = y + 1 := by unfold wrap64; omega
      have w3_ : wrap64 (7777 + y) = 7777 + y := by unfold wrap64; omega
      have w4_ : IntKind.u64.wrap (7777 + y) = 7777 + y := by unfold IntKind.wrap; simp [IntKind.signed, IntKind.bits]; omega
      go_wp2_with (at_builtin; refine print_append_two (W := wr) w.heap.size rfl (.tmp 13) (.tmp 17) 29 22 (.int .u64 0) 8 rfl Try.underlying29 (by kernel_rfl) rfl _ (xs.length + y.toNat) _ (.int .u64 (7777 + y)) rfl rfl rfl HO.out HB.out.size ?c1 ?c2 ?_; (case c1 => go_light; have := HM.out; simp only [maxLen]; omega); (case c2 => go_light; have := HM.out; omega); intro g_ cap_ w1 how_ hgr_; have HN1 := Aside0.mk how_; have HG1 := Aside0.mk hgr_; clear how_ hgr_)
      go_roundg (70 - (y + 1).toNat)
      case measure => go_light; have := HY.out; omega
      case rel =>
        go_light
        have hg : ∃ row, wr.grownBy w1 row ∧ ∀ k, row = some k → w.heap.size ≤ k ∧ ∃ cs, wr.heap[k]? = some (.cells cs 22 (0, 0)) := by
          rcases HG1.out with ⟨h1, h2⟩ | ⟨h1, h2⟩
          · exact ⟨_, h2, fun k hk => by cases hk; exact own_block HO.out g_ h1⟩
          · exact ⟨_, h2, fun k hk => by cases hk⟩
        obtain ⟨row, hg, hrow⟩ := hg
        have far : ∀ t cs, wr.heap[t]? = some (.cells cs 31 (0, 0)) → some t ≠ row := by
          intro t cs ht e_
          obtain ⟨_, cs', hc⟩ := hrow t e_.symm
          rw [ht] at hc
          injection hc with hc
          injection hc with _ hc
          exact absurd hc (by decide)
        refine ⟨y + 1, by simp [w1_], ⟨by omega, by have := HY.out; omega⟩, ⟨?_⟩, ⟨blk_grown H1x.out hg (far _ _ H1x.out)⟩, ⟨blk_grown H2x.out hg (far _ _ H2x.out)⟩, ⟨HB.out.grown hg HB.out.size (fun k hk => (hrow k hk).1)⟩⟩
        have h_ := HN1.out
        have e1 : nums .u64 (xs ++ tail y.toNat) ++ [Value.int .u64 (7777 + y)] = nums .u64 (xs ++ tail (y.toNat + 1)) := by
          rw [← tail_succ, ← List.append_assoc, nums_append _ (xs ++ tail y.toNat)]
          rw [show ((y.toNat : Nat) : Int) = y by omega]
          rfl
        rw [e1] at h_
        rwa [show (y + 1).toNat = y.toNat + 1 by omega]
    · have y70 : y = 70 := by have := HY.out; omega
      subst y70
      have HO := Aside0.mk (show wr.ownsRow w.heap.size 22 1 _ (xs.length + 70) (nums .u64 (xs ++ tail 70)) from HO.out)
      obtain ⟨g, cp, e_, _⟩ := HO.out.form (by omega)
      subst e_
      have q3 : xs.length ≤ cp := by have := own_le HO.out; omega
      have i0_ := (blk_cell H1x.out 0).trans (show ((#[Value.int .i64 n, Value.slice A xs.length c] : Array Value)[0]?) = some (.int .i64 n) from rfl)
      have i1_ := (blk_cell H1x.out 1).trans (show ((#[Value.int .i64 n, Value.slice A xs.length c] : Array Value)[1]?) = some (.slice A xs.length c) from rfl)
      clear HY
      go_wp2_with fail
      refine start_ (n := 9) (S := fun w' => w'.cell? ⟨t1, 0, none⟩ = some (.int .i64 n) ∧ w'.cell? ⟨t1, 1, none⟩ = some (.slice A xs.length c)) (ds := [8]) #[false, false, false, false, false, false, false, false, false] (by kernel_rfl) rfl rfl ⟨(blk_cell H1x.out 0).trans rfl, (blk_cell H1x.out 1).trans rfl⟩ (fun hHeld => ?_)
      replace H1x := Aside0.mk (blk_drew H1x.out)
      replace H2x := Aside0.mk (blk_drew H2x.out)
      replace HO := Aside0.mk (pw_own_below HO.out (below_drew (Below.refl wr.heap.size wr)))
      replace HB := Aside0.mk (below_drew HB.out)
      clear i0_ i1_
      generalize wr.drew = wx at H1x H2x HO HB hHeld ⊢
      refine pure_ (i := 0) (N := (some 19)) (v := ?_) (a' := ?_) #[true, false, false, false, false, false, false, false, false] rfl rfl (by kernel_rfl) (fun _ _ _ h => h) (Or.inl ⟨by rfl, ?_⟩) ?_ ?_
      rotate_left
      · intro w'
        go_simp
        with_reducible rfl
      rotate_left
      · simp only [Act.put, List.setIfInBounds_toArray, List.set_cons_zero, List.set_cons_succ, i64_w, i32_w]
        rfl
      refine take_ (i := 1) (N := (some 20)) (v := ?_) (a' := ?_) #[true, true, false, false, false, false, false, false, false] rfl rfl (by kernel_rfl) (fun _ _ _ h => h) (Or.inl ⟨by rfl, ?_⟩) hHeld ?_ ?_
      rotate_left
      · rintro w' ⟨s0, s1⟩
        go_simp
        with_reducible rfl
      rotate_left
      · simp only [Act.put, List.setIfInBounds_toArray, List.set_cons_zero, List.set_cons_succ, i64_w, i32_w]
        rfl
      refine pure_ (i := 2) (N := (some 21)) (v := ?_) (a' := ?_) #[true, true, true, false, false, false, false, false, false] rfl rfl (by kernel_rfl) (fun _ _ _ h => h) (Or.inl ⟨by rfl, ?_⟩) ?_ ?_
      rotate_left
      · intro w'
        go_simp
        with_reducible rfl
      rotate_left
      · simp only [Act.put, List.setIfInBounds_toArray, List.set_cons_zero, List.set_cons_succ, i64_w, i32_w]
        rfl
      refine pure_ (i := 3) (N := (some 22)) (v := ?_) (a' := ?_) #[true, true, true, true, false, false, false, false, false] rfl rfl (by kernel_rfl) (fun _ _ _ h => h) (Or.inl ⟨by rfl, ?_⟩) ?_ ?_
      rotate_left
      · intro w'
        go_simp
        with_reducible rfl
      rotate_left
      · simp only [Act.put, List.setIfInBounds_toArray, List.set_cons_zero, List.set_cons_succ, i64_w, i32_w]
        rfl
      refine take_ (i := 4) (N := (some 23)) (v := ?_) (a' := ?_) #[true, true, true, true, true, false, false, false, false] rfl rfl (by kernel_rfl) (fun _ _ _ h => h) (Or.inl ⟨by rfl, ?_⟩) hHeld ?_ ?_
      rotate_left
      · rintro w' ⟨s0, s1⟩
        go_simp
        with_reducible rfl
      rotate_left
      · simp only [Act.put, List.setIfInBounds_toArray, List.set_cons_zero, List.set_cons_succ, i64_w, i32_w]
        rfl
      refine pure_ (i := 5) (N := (some 24)) (v := ?_) (a' := ?_) #[true, true, true, true, true, true, false, false, false] rfl rfl (by kernel_rfl) (fun _ _ _ h => h) (Or.inl ⟨by rfl, ?_⟩) ?_ ?_
      rotate_left
      · intro w'
        go_simp
        with_reducible rfl
      rotate_left
      · simp only [Act.put, List.setIfInBounds_toArray, List.set_cons_zero, List.set_cons_succ, i64_w, i32_w]
        rfl
      refine pure_ (i := 6) (N := (some 25)) (v := ?_) (a' := ?_) #[true, true, true, true, true, true, true, false, false] rfl rfl (by kernel_rfl) (fun _ _ _ h => h) (Or.inl ⟨by rfl, ?_⟩) ?_ ?_
      rotate_left
      · intro w'
        go_simp
        with_reducible rfl
      rotate_left
      · simp only [Act.put, List.setIfInBounds_toArray, List.set_cons_zero, List.set_cons_succ, i64_w, i32_w]
        rfl
      refine pure_ (i := 7) (N := (some 26)) (v := ?_) (a' := ?_) #[true, true, true, true, true, true, true, true, false] rfl rfl (by kernel_rfl) (fun _ _ _ h => h) (Or.inl ⟨by rfl, ?_⟩) ?_ ?_
      rotate_left
      · intro w'
        go_simp
        with_reducible rfl
      rotate_left
      · simp only [Act.put, List.setIfInBounds_toArray, List.set_cons_zero, List.set_cons_succ, i64_w, i32_w]
        rfl
      refine last_ (i := 8) (N := none) #[true, true, true, true, true, true, true, true, true] rfl rfl (by kernel_rfl) (by decide) (fun K hK => ?_)
      have c0_ := (blk_cell H2x.out 0).trans (show ((#[Value.int .i64 0, Value.slice none 0 0] : Array Value)[0]?) = some (.int .i64 0) from rfl)
      have c1_ := (blk_cell H2x.out 1).trans (show ((#[Value.int .i64 0, Value.slice none 0 0] : Array Value)[1]?) = some (.slice none 0 0) from rfl)
      have f0_ := blk_frozen H2x.out 0
      have f1_ := blk_frozen H2x.out 1
      refine skip_ (w1 := (wx.setCell ⟨t2, 0, none⟩ (.int .i64 n)).setCell ⟨t2, 1, none⟩ (.slice (some ⟨g, 0, none⟩) xs.length cp)) (by rfl) rfl ?_ ?_
      · first | (go_simp; done) | (go_simp; rfl)
      refine hK.out _ _ ?_
      clear hK K hHeld c0_ c1_ f0_ f1_
      refine done_ (by kernel_rfl) ?_
      have HT2 := Aside0.mk (blk_put (cs := #[.int .i64 n, .slice none 0 0]) (blk_put (cs := #[.int .i64 0, .slice none 0 0]) H2x.out 0 (.int .i64 n) rfl) 1 (.slice (some ⟨g, 0, none⟩) xs.length cp) rfl)
      have ne_ : g ≠ t2 := by
        intro e_
        obtain ⟨cs, hc⟩ := own_typed HO.out g rfl
        rw [e_, H2x.out] at hc
        injection hc with hc
        injection hc with _ hc
        exact absurd hc (by decide)
      have HF := Aside0.mk (own_setCell (own_setCell HO.out (p := ⟨t2, 0, none⟩) (fun e_ => ne_ (by injection e_ with e_; exact e_.symm)) (.int .i64 n)) (p := ⟨t2, 1, none⟩) (fun e_ => ne_ (by injection e_ with e_; exact e_.symm)) (.slice (some ⟨g, 0, none⟩) xs.length cp))
      have HBF := Aside0.mk (show Below w.heap.size w ((wx.setCell ⟨t2, 0, none⟩ (.int .i64 n)).setCell ⟨t2, 1, none⟩ (.slice (some ⟨g, 0, none⟩) xs.length cp)) from below_set (below_set HB.out E1.out.2) E1.out.2)
      generalize (wx.setCell ⟨t2, 0, none⟩ (.int .i64 n)).setCell ⟨t2, 1, none⟩ (.slice (some ⟨g, 0, none⟩) xs.length cp) = wz at HT2 HF HBF ⊢
      go_wp2_with fail
      refine bodyPost_ret (results_cell_row rfl _ _ t2 31 #[.int .i64 n, .slice (some ⟨g, 0, none⟩) xs.length cp] (0, 0) _ rfl HT2.out Try.underlying31 rfl (by kernel_rfl)) rfl ?_
      exact ⟨g, cp, rfl, HF.out, HBF.out⟩
set_option maxHeartbeats 4000000 in
set_option maxRecDepth 100000 in
theorem kept (k : Nat) (n : Int) (g c : Nat) (A : Option Addr) (c' : Nat) (xs : List Int) (base : Nat) (w : World) (hT : LentIs base w g c xs) (hC : Kd.C (Kd.int .u64) w A xs.length xs) (hl : xs.length ≤ c') (hm : xs.length ≤ 17592186043904) (hS : vivariumref02_Same.f k n xs n xs = some true) :
    Calls Try.prog 30 #[.agg #[.int .i64 n, .slice (some ⟨g, 0, none⟩) xs.length c], .agg #[.int .i64 n, .slice A xs.length c']] w fun e w' => e = .returned (.bool true) ∧ Below w.heap.size w w' := by
  have HT := Aside0.mk hT; have HC := Aside0.mk hC; have HL := Aside0.mk hl; have HM := Aside0.mk hm; have HS := Aside0.mk hS
  have hu := Try.underlying31
  have q3 : xs.length + 70 ≤ c := hT.cap
  have HLc := Aside0.mk (show xs.length ≤ c by omega)
  have w5_ : wrap64 ((xs.length : Int) + 70) = (xs.length : Int) + 70 := by unfold wrap64; omega
  clear hT hC hl hm hS
  go_enter Try.func30, Try.ntmps30
  go_wp2_with (first
    | ((with_reducible refine gate_dst (N := 2) rfl ?_); refine box_event ?hg2 (N := 2) ?hd2 (cs := #[.int .i64 n, .slice (some ⟨g, 0, none⟩) xs.length c]) (t := 31) ?hr2 ?_; (case hd2 => rfl); (case hg2 => rfl); (case hr2 => first | (go_simp; done) | (go_simp; rfl)); intro t2 g2 W2 x2 hb2)
    | ((with_reducible refine gate_dst (N := 3) rfl ?_); refine box_event ?hg3 (N := 3) ?hd3 (cs := #[.int .i64 n, .slice A xs.length c']) (t := 31) ?hr3 ?_; (case hd3 => rfl); (case hg3 => rfl); (case hr3 => first | (go_simp; done) | (go_simp; rfl)); intro t3 g3 W3 x3 hb3; have HB := Aside0.mk (chain_ hb2 hb3); have H2x := Aside0.mk ((hb3.block t2 (blk_lt x2)).trans x2); have H3x := Aside0.mk x3; have i0_ := (blk_cell H2x.out 0).trans (show ((#[Value.int .i64 n, Value.slice (some ⟨g, 0, none⟩) xs.length c] : Array Value)[0]?) = some (.int .i64 n) from rfl); have i1_ := (blk_cell H2x.out 1).trans (show ((#[Value.int .i64 n, Value.slice (some ⟨g, 0, none⟩) xs.length c] : Array Value)[1]?) = some (.slice (some ⟨g, 0, none⟩) xs.length c) from rfl); have j0_ := (blk_cell H3x.out 0).trans (show ((#[Value.int .i64 n, Value.slice A xs.length c'] : Array Value)[0]?) = some (.int .i64 n) from rfl); have j1_ := (blk_cell H3x.out 1).trans (show ((#[Value.int .i64 n, Value.slice A xs.length c'] : Array Value)[1]?) = some (.slice A xs.length c') from rfl); clear g2 g3 x2 x3 hb2 hb3)
    | (go_at_call 49; with_reducible refine (vivariumref02_Same.calls k n (some ⟨g, 0, none⟩) c xs n A c' xs true _ (Kd.C_below HT.out.C HB.out) HLc.out (Kd.C_below HC.out HB.out) HL.out HS.out).mono ?_; rintro e wS ⟨rfl, hb⟩; replace i0_ := pw_cell_below hb i0_; replace i1_ := pw_cell_below hb i1_; replace j0_ := pw_cell_below hb j0_; replace j1_ := pw_cell_below hb j1_; have HB2 := Aside0.mk (chain_ HB.out hb); clear hb H2x H3x))
  clear HB
  go_loopg [8] 70 (fun gg s8 wr => wr = wS ∧ ∃ y : Int, s8 = .int .i64 y ∧ Aside0 (0 ≤ y ∧ (gg : Int) = 70 - y))
  case atStart => exact ⟨rfl, 0, rfl, ⟨by omega, by omega⟩⟩
  case round =>
    obtain ⟨rfl, y, rfl, HY⟩ := hrel
    clear i0_ i1_ j0_ j1_
    by_cases q : y < 70
    · have p : 0 ≤ y := HY.out.1
      have w1_ : wrap64 (y + 1) = y + 1 := by unfold wrap64; omega
      have w3_ : wrap64 (7777 + y) = 7777 + y := by unfold wrap64; omega
      have w4_ : IntKind.u64.wrap (7777 + y) = 7777 + y := by unfold IntKind.wrap; simp [IntKind.signed, IntKind.bits]; omega
      have w6_ : wrap64 ((xs.length : Int) + y) = (xs.length : Int) + y := by have := HM.out; unfold wrap64; omega
      have q4 : 0 ≤ (xs.length : Int) + y := by omega
      have q5 : (xs.length : Int) + y < ((xs.length + 70 : Nat) : Int) := by omega
      have q6 : (xs.length : Int) + y < (xs.length : Int) + 70 := by omega
      have c_ : wr.cell? ⟨g, ((xs.length : Int) + y).toNat, none⟩ = some (.int .u64 (7777 + y)) := by
        have h_ := (own_at (pw_own_below HT.out HB2.out) ((xs.length : Int) + y) q4 q5).1
        rwa [rd_tail p q] at h_
      go_wp2_with fail
      go_roundg (70 - (y + 1).toNat)
      case measure => go_light; have := HY.out; omega
      case rel => go_light; exact ⟨rfl, y + 1, by simp [w1_], ⟨by omega, by have := HY.out; omega⟩⟩
    · go_wp2_with fail
      go_ret
      exact ⟨rfl, HB2.out⟩
/-- y words turned. -/
def wiped (k : Nat) (xs : List Int) : List Int := (xs.take k).map (fun v => Go.bits .xor .u64 v 6148914691236517205) ++ xs.drop k
theorem wiped_length (k : Nat) (xs : List Int) : (wiped k xs).length = xs.length := by simp [wiped]; omega
theorem wiped_zero (xs : List Int) : wiped 0 xs = xs := by simp [wiped]
theorem wiped_all (xs : List Int) : wiped xs.length xs = xs.map (fun v => Go.bits .xor .u64 v 6148914691236517205) := by simp [wiped]
theorem rd_wiped (k : Nat) (xs : List Int) (y : Int) (hy : k = y.toNat) (h : k < xs.length) : rd (wiped k xs) y = xs[k] := by
  subst hy
  unfold rd wiped
  rw [List.getD_eq_getElem?_getD, List.getElem?_append_right (by simp; omega)]
  simp [Nat.min_eq_left (Nat.le_of_lt h), List.getElem?_drop, h]
theorem wiped_set {k : Nat} {xs : List Int} (h : k < xs.length) (y : Int) (hy : k = y.toNat) : (wiped k xs ++ tail 70).set k (Go.bits .xor .u64 (rd (wiped k xs) y) 6148914691236517205) = wiped (k + 1) xs ++ tail 70 := by
  rw [rd_wiped k xs y hy h, List.set_append_left _ _ (by rw [wiped_length]; exact h)]
  congr 1
  unfold wiped
  rw [List.set_append_right _ _ (by simp; omega)]
  simp only [List.length_map, List.length_take, Nat.min_eq_left (Nat.le_of_lt h), Nat.sub_self]
  rw [List.drop_eq_getElem_cons h, List.set_cons_zero, List.take_succ_eq_append_getElem h, List.map_append, List.append_assoc]
  rfl
set_option maxHeartbeats 4000000 in
set_option maxRecDepth 100000 in
theorem wipe (n : Int) (g c : Nat) (xs : List Int) (base : Nat) (w : World) (hT : LentIs base w g c xs) (hb0 : base ≤ w.heap.size) (hm : xs.length ≤ 17592186043904) :
    Calls Try.prog 31 #[.agg #[.int .i64 n, .slice (some ⟨g, 0, none⟩) xs.length c]] w fun e w' => e = .returned (.tuple #[]) ∧ LentIs base w' g c (xs.map (fun v => Go.bits .xor .u64 v 6148914691236517205)) ∧ w.grownBy w' (some g) := by
  have HT := Aside0.mk hT; have HM := Aside0.mk hm
  have hu := Try.underlying31
  clear hT hm
  go_enter Try.func31, Try.ntmps31
  go_wp2_with ((with_reducible refine gate_dst (N := 1) rfl ?_); refine box_event ?hg1 (N := 1) ?hd1 (cs := #[.int .i64 n, .slice (some ⟨g, 0, none⟩) xs.length c]) (t := 31) ?hr1 ?_; (case hd1 => rfl); (case hg1 => rfl); (case hr1 => first | (go_simp; done) | (go_simp; rfl)); intro t1 g1 W1 x1 hb1; have HI := Aside0.mk (HT.out.on hb1); have H1x := Aside0.mk x1; have HG := Aside0.mk (grown_of_below hb1 (some g)); clear x1 g1 hb1)
  go_loopg [2] xs.length (fun gg s2 wr => ∃ y : Int, s2 = .int .i64 y ∧ Aside0 (0 ≤ y ∧ (gg : Int) = xs.length - y) ∧ Aside0 (LentIs base wr g c (wiped y.toNat xs)) ∧ Aside0 (wr.heap[t1]? = some (.cells #[.int .i64 n, .slice (some ⟨g, 0, none⟩) xs.length c] 31 (0, 0))) ∧ Aside0 (w.grownBy wr (some g)))
  case atStart => exact ⟨0, rfl, ⟨by omega, by omega⟩, ⟨by rw [show (0 : Int).toNat = 0 from rfl, wiped_zero]; exact HI.out⟩, H1x, HG⟩
  case round =>
    clear HI H1x HG
    obtain ⟨y, rfl, HY, HI, H1x, HG⟩ := hrel
    have i1_ := (blk_cell H1x.out 1).trans (show ((#[Value.int .i64 n, Value.slice (some ⟨g, 0, none⟩) xs.length c] : Array Value)[1]?) = some (.slice (some ⟨g, 0, none⟩) xs.length c) from rfl)
    by_cases q : y < (xs.length : Int)
    · have p : 0 ≤ y := HY.out.1
      have q1 : y < ((wiped y.toNat xs).length : Int) := by rw [wiped_length]; exact q
      have w1_ : wrap64 (y + 1) = y + 1 := by have := HM.out; unfold wrap64; omega
      have c_ := (own_at HI.out.own y p q1).1
      go_wp2_with fail
      clear q1
      have q1 : y < ((wiped y.toNat xs).length : Int) := by rw [wiped_length]; exact q
      refine start_ (n := 11) (S := fun w' => w'.cell? ⟨t1, 1, none⟩ = some (.slice (some ⟨g, 0, none⟩) xs.length c) ∧ w'.cell? ⟨g, y.toNat, none⟩ = some (.int .u64 (rd (wiped y.toNat xs) y))) (ds := [10]) #[false, false, false, false, false, false, false, false, false, false, false] (by kernel_rfl) rfl rfl ⟨i1_, c_⟩ (fun hHeld => ?_)
      replace HI := Aside0.mk (HI.out.on (below_drew (Below.refl wr.heap.size wr)))
      replace H1x := Aside0.mk (blk_drew H1x.out)
      replace HG := Aside0.mk (HG.out.trans (grown_of_below (below_drew (Below.refl wr.heap.size wr)) (some g)))
      clear i1_ c_
      generalize wr.drew = wx at HI H1x HG hHeld ⊢
      refine pure_ (i := 0) (N := (some 10)) (v := ?_) (a' := ?_) #[true, false, false, false, false, false, false, false, false, false, false] rfl rfl (by kernel_rfl) (fun _ _ _ h => h) (Or.inl ⟨by rfl, ?_⟩) ?_ ?_
      rotate_left
      · intro w'
        go_simp
        with_reducible rfl
      rotate_left
      · simp only [Act.put, List.setIfInBounds_toArray, List.set_cons_zero, List.set_cons_succ, i64_w, i32_w]
        rfl
      refine take_ (i := 1) (N := (some 11)) (v := ?_) (a' := ?_) #[true, true, false, false, false, false, false, false, false, false, false] rfl rfl (by kernel_rfl) (fun _ _ _ h => h) (Or.inl ⟨by rfl, ?_⟩) hHeld ?_ ?_
      rotate_left
      · rintro w' ⟨s0, s1⟩
        go_simp
        with_reducible rfl
      rotate_left
      · simp only [Act.put, List.setIfInBounds_toArray, List.set_cons_zero, List.set_cons_succ, i64_w, i32_w]
        rfl
      refine pure_ (i := 2) (N := (some 12)) (v := ?_) (a' := ?_) #[true, true, true, false, false, false, false, false, false, false, false] rfl rfl (by kernel_rfl) (fun _ _ _ h => h) (Or.inl ⟨by rfl, ?_⟩) ?_ ?_
      rotate_left
      · intro w'
        go_simp
        with_reducible rfl
      rotate_left
      · simp only [Act.put, List.setIfInBounds_toArray, List.set_cons_zero, List.set_cons_succ, i64_w, i32_w]
        rfl
      refine pure_ (i := 3) (N := (some 13)) (v := ?_) (a' := ?_) #[true, true, true, true, false, false, false, false, false, false, false] rfl rfl (by kernel_rfl) (fun _ _ _ h => h) (Or.inl ⟨by rfl, ?_⟩) ?_ ?_
      rotate_left
      · intro w'
        go_simp
        with_reducible rfl
      rotate_left
      · simp only [Act.put, List.setIfInBounds_toArray, List.set_cons_zero, List.set_cons_succ, i64_w, i32_w]
        rfl
      refine take_ (i := 4) (N := (some 14)) (v := ?_) (a' := ?_) #[true, true, true, true, true, false, false, false, false, false, false] rfl rfl (by kernel_rfl) (fun _ _ _ h => h) (Or.inl ⟨by rfl, ?_⟩) hHeld ?_ ?_
      rotate_left
      · rintro w' ⟨s0, s1⟩
        go_simp
        with_reducible rfl
      rotate_left
      · simp only [Act.put, List.setIfInBounds_toArray, List.set_cons_zero, List.set_cons_succ, i64_w, i32_w]
        rfl
      refine pure_ (i := 5) (N := (some 15)) (v := ?_) (a' := ?_) #[true, true, true, true, true, true, false, false, false, false, false] rfl rfl (by kernel_rfl) (fun _ _ _ h => h) (Or.inl ⟨by rfl, ?_⟩) ?_ ?_
      rotate_left
      · intro w'
        go_simp
        with_reducible rfl
      rotate_left
      · simp only [Act.put, List.setIfInBounds_toArray, List.set_cons_zero, List.set_cons_succ, i64_w, i32_w]
        rfl
      refine pure_ (i := 6) (N := (some 16)) (v := ?_) (a' := ?_) #[true, true, true, true, true, true, true, false, false, false, false] rfl rfl (by kernel_rfl) (fun _ _ _ h => h) (Or.inl ⟨by rfl, ?_⟩) ?_ ?_
      rotate_left
      · intro w'
        go_simp
        with_reducible rfl
      rotate_left
      · simp only [Act.put, List.setIfInBounds_toArray, List.set_cons_zero, List.set_cons_succ, i64_w, i32_w]
        rfl
      refine take_ (i := 7) (N := (some 17)) (v := ?_) (a' := ?_) #[true, true, true, true, true, true, true, true, false, false, false] rfl rfl (by kernel_rfl) (fun _ _ _ h => h) (Or.inl ⟨by rfl, ?_⟩) hHeld ?_ ?_
      rotate_left
      · rintro w' ⟨s0, s1⟩
        go_simp
        with_reducible rfl
      rotate_left
      · simp only [Act.put, List.setIfInBounds_toArray, List.set_cons_zero, List.set_cons_succ, i64_w, i32_w]
        rfl
      refine pure_ (i := 8) (N := (some 18)) (v := ?_) (a' := ?_) #[true, true, true, true, true, true, true, true, true, false, false] rfl rfl (by kernel_rfl) (fun _ _ _ h => h) (Or.inl ⟨by rfl, ?_⟩) ?_ ?_
      rotate_left
      · intro w'
        go_simp
        with_reducible rfl
      rotate_left
      · simp only [Act.put, List.setIfInBounds_toArray, List.set_cons_zero, List.set_cons_succ, i64_w, i32_w]
        rfl
      refine pure_ (i := 9) (N := (some 19)) (v := ?_) (a' := ?_) #[true, true, true, true, true, true, true, true, true, true, false] rfl rfl (by kernel_rfl) (fun _ _ _ h => h) (Or.inl ⟨by rfl, ?_⟩) ?_ ?_
      rotate_left
      · intro w'
        go_simp
        with_reducible rfl
      rotate_left
      · simp only [Act.put, List.setIfInBounds_toArray, List.set_cons_zero, List.set_cons_succ, i64_w, i32_w]
        rfl
      refine last_ (i := 10) (N := none) #[true, true, true, true, true, true, true, true, true, true, true] rfl rfl (by kernel_rfl) (by decide) (fun K hK => ?_)
      have f0_ := (own_at HI.out.own y p q1).2
      have s0_ := hHeld.2
      refine skip_ (w1 := wx.setCell ⟨g, y.toNat, none⟩ (.int .u64 (Go.bits .xor .u64 (rd (wiped y.toNat xs) y) 6148914691236517205))) (by rfl) rfl ?_ ?_
      · first | (go_simp; done) | (go_simp; rfl)
      refine hK.out _ _ ?_
      clear hK K hHeld s0_ f0_
      refine done_ (by kernel_rfl) ?_
      have HO := Aside0.mk (own_store HI.out y (Go.bits .xor .u64 (rd (wiped y.toNat xs) y) 6148914691236517205))
      have ne_ : t1 ≠ g := by
        intro e_
        obtain ⟨cs, hc⟩ := own_typed HI.out g rfl
        rw [← e_, H1x.out] at hc
        injection hc with hc
        injection hc with _ hc
        exact absurd hc (by decide)
      have H1y := Aside0.mk (blk_far (p := ⟨g, y.toNat, none⟩) H1x.out ne_ (.int .u64 (Go.bits .xor .u64 (rd (wiped y.toNat xs) y) 6148914691236517205)))
      go_wp2_with fail
      go_roundg (xs.length - (y + 1).toNat)
      case measure => go_light; have := HY.out; omega
      case rel =>
        go_light
        refine ⟨y + 1, by simp [w1_], ⟨by omega, by have := HY.out; omega⟩, ⟨?_⟩, H1y, ⟨HG.out.trans HO.out.2⟩⟩
        have h_ := HO.out.1
        rw [wiped_set (by omega) y rfl] at h_
        rw [show (y + 1).toNat = y.toNat + 1 by omega]
        unfold LentIs
        rw [wiped_length] at h_ ⊢
        exact h_
    · have hy : y.toNat = xs.length := by have := HY.out; omega
      go_wp2_with fail
      go_end0
      refine ⟨rfl, ?_, HG.out⟩
      have h_ := HI.out
      rwa [hy, wiped_all] at h_
end Go.Proofs.Ytlghmadoogblcaa.Lent
