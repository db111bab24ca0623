/- WordsAdds proved, the tied card: for every two lists of bits, Ones of Xor and twice Ones of And is what both rows have, and Bits tells as many places, rising, each with its bit. The library's table of the places of the lowest ones reads as its own text lays it (tied). -/
import Derived.Test.YtlghmadoogblcaaDoorKAdds3
section
namespace Go.Proofs.YtlghmadoogblcaaDoor.PW
open Go.RowKit Go.Proofs.YtlghmadoogblcaaDoorW.PrintWords Go.Proofs.YtlghmadoogblcaaDoorW.PrintLast Go.Proofs.YtlghmadoogblcaaDoorW.PrintMore
attribute [local go_sem] max2_int min2_int max_two min_two max_three min_three max_four min_four   -- for this text's walks alone
set_option linter.unusedVariables false
set_option linter.unusedSimpArgs false
theorem lit_event {P : Program} {ops : Array Oper} {rest : List Oper} {o : Oper} {a : Act} {Q : Exit → Act → World → Prop} {W : World} {N : Tmp} {cs : Array Value} {t : TypeId} (n : Nat) (hgd : o.guard = none) (_hd : o.dst = some N)
    (hrun : (execOp a.eval o).run P W = .ok (.value (.slice (some ⟨W.heap.size, 0, none⟩) n n)) (W.alloc (.cells cs t (0, 0))))
    (h : ∀ g, g = W.heap.size → ∀ w1, w1.heap[g]? = some (.cells cs t (0, 0)) → Below W.heap.size W w1 → wpList P ops Q rest (a.put o.dst (.slice (some ⟨g, 0, none⟩) n n)) w1) : wpList P ops Q (o :: rest) a W :=
  Kd.event_run hgd hrun (h _ rfl _ (blk_new W _) (below_alloc (Below.refl _ _) _))
theorem C_two31 {W : World} {g : Nat} {x y : S31} {A B : Option Addr} {c d : Nat} (hb : W.heap[g]? = some (.cells #[.int .i64 x.f0, .slice A x.f1.length c, .int .i64 y.f0, .slice B y.f1.length d] 24 (0, 0)))
    (lx : x.f1.length ≤ c) (ly : y.f1.length ≤ d) (hx : (Kd.int .u64).C W A x.f1.length x.f1) (hy : (Kd.int .u64).C W B y.f1.length y.f1) :
    Kd.C k31 W (some ⟨g, 0, none⟩) ([x, y] : List S31).length [x, y] := by
  refine ⟨rfl, (by show 2 ≤ 9223372036854775807; decide), fun _ => ⟨_, rfl, fun j p hj => ?_⟩⟩
  match j, hj with
  | 0, hj =>
    obtain rfl : x = p := by simpa using hj
    refine ⟨_, rfl, k31_mk W x lx hx, fun i u hu => ?_⟩
    match i, hu with
    | 0, hu => obtain rfl : Value.int .i64 x.f0 = u := by simpa using hu
               exact (blk_cell hb 0).trans rfl
    | 1, hu => obtain rfl : Value.slice A x.f1.length c = u := by simpa using hu
               exact (blk_cell hb 1).trans rfl
    | i + 2, hu => simp at hu
  | 1, hj =>
    obtain rfl : y = p := by simpa using hj
    refine ⟨_, rfl, k31_mk W y ly hy, fun i u hu => ?_⟩
    match i, hu with
    | 0, hu => obtain rfl : Value.int .i64 y.f0 = u := by simpa using hu
               exact (blk_cell hb 2).trans rfl
    | 1, hu => obtain rfl : Value.slice B y.f1.length d = u := by simpa using hu
               exact (blk_cell hb 3).trans rfl
    | i + 2, hu => simp at hu
  | j + 2, hj => simp at hj
def words_And.l0 : Nat → List Int → Int → Int → Int → List Int → Option (Int × List Int × Int)
  | 0, _, _, _, _, _ => none
  | k + 1, x21, x22, x23, x125000, x125001 => if x23 < x22 then (if 0 ≤ x23 then (if x23 < (x21.length : Int) then (if x23 < (x125001.length : Int) then (words_And.l0 k x21 x22 (wrap64 (x23 + 1)) x125000 (x125001.set (x23 : Int).toNat (Go.bits .and .u64 (rd x125001 x23) (rd x21 x23)))) else (none)) else (none)) else (none)) else (some (x125000, x125001, 0))
def words_And.f (k : Nat) (a0_0 : Int) (l0_1 : List Int) (a1_0 : Int) (l1_1 : List Int) : Option (Int × List Int × Int) := (words_fits.f k [⟨a0_0, l0_1⟩, ⟨a1_0, l1_1⟩]).bind fun t119 => (if t119 = 0 then ((words_clone.f a0_0 l0_1).bind fun bt120 => (words_And.l0 k l1_1 (l1_1.length : Int) 0 bt120.1 bt120.2)) else (some (0, ([] : List Int), t119)))
set_option maxHeartbeats 8000000 in
set_option maxRecDepth 100000 in
theorem words_And.calls (k : Nat) (a0_0 : Int) (A0_1 : Option Addr) (c0_1 : Nat) (l0_1 : List Int) (a1_0 : Int) (A1_1 : Option Addr) (c1_1 : Nat) (l1_1 : List Int) (r1 : Int) (r2 : List Int) (r3 : Int) (w : World) (hr0_1 : Kd.C (Kd.int .u64) w A0_1 l0_1.length l0_1) (hc0_1 : l0_1.length ≤ c0_1) (hr1_1 : Kd.C (Kd.int .u64) w A1_1 l1_1.length l1_1) (hc1_1 : l1_1.length ≤ c1_1) (h : words_And.f k a0_0 l0_1 a1_0 l1_1 = some (r1, r2, r3)) :
    Calls Tryd.prog 23 #[.agg #[.int .i64 a0_0, .slice A0_1 l0_1.length c0_1], .agg #[.int .i64 a1_0, .slice A1_1 l1_1.length c1_1]] w fun e w' => ∃ v1_ : Value, e = .returned (.tuple #[.agg #[.int .i64 r1, v1_], .int .i64 r3]) ∧ Kd.R (Kd.int .u64) 58 w' w.heap.size (fun _ => True) v1_ r2 ∧ Below w.heap.size w w' := by
  have hu31 := Tryd.underlying24
  have HR0_1 := Aside0.mk hr0_1
  have HC0_1 := Aside0.mk hc0_1
  clear hr0_1 hc0_1
  have HR1_1 := Aside0.mk hr1_1
  have HC1_1 := Aside0.mk hc1_1
  clear hr1_1 hc1_1
  have HB := Aside0.mk (Below.refl w.heap.size w)
  have H : ((words_fits.f k [⟨a0_0, l0_1⟩, ⟨a1_0, l1_1⟩]).bind fun t119 => (if t119 = 0 then ((words_clone.f a0_0 l0_1).bind fun bt120 => (words_And.l0 k l1_1 (l1_1.length : Int) 0 bt120.1 bt120.2)) else (some (0, ([] : List Int), t119)))) = some (r1, r2, r3) := h
  clear h
  replace H := Option.bind_eq_some_iff.mp H
  obtain ⟨t119, A30, H⟩ := H
  replace H : (if t119 = 0 then ((words_clone.f a0_0 l0_1).bind fun bt120 => (words_And.l0 k l1_1 (l1_1.length : Int) 0 bt120.1 bt120.2)) else (some (0, ([] : List Int), t119))) = some (r1, r2, r3) := H
  have A3 := Aside0.mk A30
  clear A30
  by_cases c4 : t119 = 0
  · rw [if_pos c4] at H
    have c4b0 : (t119 == 0) = true := beq_iff_eq.mpr c4
    have c4b1 : (t119 != 0) = false := bne_eq_false_iff_eq.mpr c4
    clear c4
    replace H := Option.bind_eq_some_iff.mp H
    obtain ⟨⟨t120, t121⟩, A50, H⟩ := H
    replace H : (words_And.l0 k l1_1 (l1_1.length : Int) 0 t120 t121) = some (r1, r2, r3) := H
    have A5 := Aside0.mk A50
    clear A50
    have H' := Aside0.mk H
    clear H
    go_enter Tryd.func23, Tryd.ntmps23
    go_wp2_with (first | ((with_reducible refine gate_dst (N := 2) rfl ?_); refine box_event ?hg (N := 2) ?hd (cs := #[.int .i64 a0_0, .slice A0_1 l0_1.length c0_1]) (t := 24) ?hr ?_; (case hd => rfl); (case hg => rfl); (case hr => first | (go_simp; done) | (go_simp; rfl)); intro gb116 hg w6 hbox hb; have n0_ := Aside0.mk (below_step (by repeat (first | (with_reducible first | exact HB.out | apply below_alloc | apply pw_below_drewN | apply below_drew1) | exact HB.out)) hb); have n1_ := Aside0.mk (hbox); have n2_ := Aside0.mk ((by rw [hg]; exact (below_size (by repeat (first | (with_reducible first | exact HB.out | apply below_alloc | apply pw_below_drewN | apply below_drew1) | exact HB.out))) : w.heap.size ≤ gb116)); have n3_ := Aside0.mk ((by rw [hg]; exact (below_size (by repeat (first | (with_reducible first | exact HB.out | apply below_alloc | apply pw_below_drewN | apply below_drew1) | exact HB.out))) : w.heap.size ≤ gb116)); clear HB; have HB := n0_; have BK116 := n1_; have GW116 := n2_; have GE116 := n3_; clear n0_ n1_ n2_ n3_; clear hb hbox hg) | ((with_reducible refine gate_dst (N := 3) rfl ?_); refine box_event ?hg (N := 3) ?hd (cs := #[.int .i64 a1_0, .slice A1_1 l1_1.length c1_1]) (t := 24) ?hr ?_; (case hd => rfl); (case hg => rfl); (case hr => first | (go_simp; done) | (go_simp; rfl)); intro gb117 hg w7 hbox hb; have n0_ := Aside0.mk (blk_below BK116.out hb); have n1_ := Aside0.mk (below_step (by repeat (first | (with_reducible first | exact HB.out | apply below_alloc | apply pw_below_drewN | apply below_drew1 | refine below_set ?_ GE116.out) | exact HB.out)) hb); have n2_ := Aside0.mk (hbox); have n3_ := Aside0.mk ((by rw [hg]; exact (below_size (by repeat (first | (with_reducible first | exact HB.out | apply below_alloc | apply pw_below_drewN | apply below_drew1 | refine below_set ?_ GE116.out) | exact HB.out))) : w.heap.size ≤ gb117)); have n4_ := Aside0.mk ((by rw [hg]; exact (below_size (by repeat (first | (with_reducible first | exact HB.out | apply below_alloc | apply pw_below_drewN | apply below_drew1 | refine below_set ?_ GE116.out) | exact HB.out))) : w.heap.size ≤ gb117)); have n5_ := Aside0.mk ((by rw [hg]; exact Nat.ne_of_lt (blk_lt BK116.out) : gb116 ≠ gb117)); have n6_ := Aside0.mk ((by rw [hg]; exact Nat.ne_of_gt (blk_lt BK116.out) : gb117 ≠ gb116)); clear BK116; clear HB; have BK116 := n0_; have HB := n1_; have BK117 := n2_; have GW117 := n3_; have GE117 := n4_; have NB116_117 := n5_; have NB117_116 := n6_; clear n0_ n1_ n2_ n3_ n4_ n5_ n6_; clear hb hbox hg) | ((with_reducible refine gate_dst (N := 4) rfl ?_); refine box_event ?hg (N := 4) ?hd (cs := #[.int .i64 0, .slice none 0 0]) (t := 24) ?hr ?_; (case hd => rfl); (case hg => rfl); (case hr => first | (go_simp; done) | (go_simp; rfl)); intro gb118 hg w8 hbox hb; have n0_ := Aside0.mk (blk_below BK116.out hb); have n1_ := Aside0.mk (blk_below BK117.out hb); have n2_ := Aside0.mk (below_step (by repeat (first | (with_reducible first | exact HB.out | apply below_alloc | apply pw_below_drewN | apply below_drew1 | refine below_set ?_ GE116.out | refine below_set ?_ GE117.out) | exact HB.out)) hb); have n3_ := Aside0.mk (hbox); have n4_ := Aside0.mk ((by rw [hg]; exact (below_size (by repeat (first | (with_reducible first | exact HB.out | apply below_alloc | apply pw_below_drewN | apply below_drew1 | refine below_set ?_ GE116.out | refine below_set ?_ GE117.out) | exact HB.out))) : w.heap.size ≤ gb118)); have n5_ := Aside0.mk ((by rw [hg]; exact (below_size (by repeat (first | (with_reducible first | exact HB.out | apply below_alloc | apply pw_below_drewN | apply below_drew1 | refine below_set ?_ GE116.out | refine below_set ?_ GE117.out) | exact HB.out))) : w.heap.size ≤ gb118)); have n6_ := Aside0.mk ((by rw [hg]; exact Nat.ne_of_lt (blk_lt BK116.out) : gb116 ≠ gb118)); have n7_ := Aside0.mk ((by rw [hg]; exact Nat.ne_of_gt (blk_lt BK116.out) : gb118 ≠ gb116)); have n8_ := Aside0.mk ((by rw [hg]; exact Nat.ne_of_lt (blk_lt BK117.out) : gb117 ≠ gb118)); have n9_ := Aside0.mk ((by rw [hg]; exact Nat.ne_of_gt (blk_lt BK117.out) : gb118 ≠ gb117)); clear BK116; clear BK117; clear HB; have BK116 := n0_; have BK117 := n1_; have HB := n2_; have BK118 := n3_; have GW118 := n4_; have GE118 := n5_; have NB116_118 := n6_; have NB118_116 := n7_; have NB117_118 := n8_; have NB118_117 := n9_; clear n0_ n1_ n2_ n3_ n4_ n5_ n6_ n7_ n8_ n9_; clear hb hbox hg; have hnb9 := NB116_117.out; have hnc9 := NB117_116.out; have hnb10 := NB116_118.out; have hnc10 := NB118_116.out; have hcz11_0 : w8.cell? ⟨gb116, 0, none⟩ = some (.int .i64 a0_0) := (blk_cell BK116.out 0).trans rfl; have hcz11_1 : w8.cell? ⟨gb116, 1, none⟩ = some (.slice A0_1 l0_1.length c0_1) := (blk_cell BK116.out 1).trans rfl; have hfz11_0 := blk_frozen BK116.out 0; have hfz11_1 := blk_frozen BK116.out 1; have hnb12 := NB117_118.out; have hnc12 := NB118_117.out; have hcz13_0 : w8.cell? ⟨gb117, 0, none⟩ = some (.int .i64 a1_0) := (blk_cell BK117.out 0).trans rfl; have hcz13_1 : w8.cell? ⟨gb117, 1, none⟩ = some (.slice A1_1 l1_1.length c1_1) := (blk_cell BK117.out 1).trans rfl; have hfz13_0 := blk_frozen BK117.out 0; have hfz13_1 := blk_frozen BK117.out 1) | ((with_reducible refine gate_dst (N := 12) rfl ?_); refine lit_event (N := 12) (cs := #[.int .i64 a0_0, .slice A0_1 l0_1.length c0_1, .int .i64 a1_0, .slice A1_1 l1_1.length c1_1]) (t := 24) 2 rfl rfl (by first | (go_simp; done) | (go_simp; rfl)) ?_; intro gl_ hgl_ wl_ hbox_ hb; have k0_ := Aside0.mk (blk_below BK116.out hb); have k1_ := Aside0.mk (blk_below BK117.out hb); have k2_ := Aside0.mk (blk_below BK118.out hb); have kb_ := Aside0.mk (below_step HB.out hb); clear HB BK116 BK117 BK118; have BK116 := k0_; have BK117 := k1_; have BK118 := k2_; have HB := kb_; have HL_ := Aside0.mk (C_two31 (x := ⟨a0_0, l0_1⟩) (y := ⟨a1_0, l1_1⟩) hbox_ HC0_1.out HC1_1.out (Kd.C_below HR0_1.out HB.out) (Kd.C_below HR1_1.out HB.out)); clear hbox_ hb hgl_ kb_ k0_ k1_ k2_) | ((with_reducible refine gate_callee (f := 42) rfl ?_); refine goesL_ (some 13) rfl rfl Tryd.func42 (by kernel_rfl) rfl #[.slice (some ⟨gl_, 0, none⟩) 2 2] rfl (by (try simp only [List.map_toArray, List.map_cons, List.map_nil]); first | done | rfl | (simp only [List.length_drop, List.length_take]; rfl)) ?_; (refine (words_fits.calls k (some ⟨gl_, 0, none⟩) 2 [⟨a0_0, l0_1⟩, ⟨a1_0, l1_1⟩] t119 _ ?side1 ?side2 A3.out).mono ?_); (case side1 => exact HL_.out); (case side2 => exact Nat.le_refl _); rintro e w14 ⟨rfl, hb⟩; refine ⟨_, rfl, ?_⟩; have n0_ := Aside0.mk (blk_below BK116.out hb); have n1_ := Aside0.mk (blk_below BK117.out hb); have n2_ := Aside0.mk (blk_below BK118.out hb); have n3_ := Aside0.mk (below_step (by repeat (first | (with_reducible first | exact HB.out | apply below_alloc | apply pw_below_drewN | apply below_drew1 | refine below_set ?_ GE116.out | refine below_set ?_ GE117.out | refine below_set ?_ GE118.out) | exact HB.out)) hb); clear BK116; clear BK117; clear BK118; clear HB; have BK116 := n0_; have BK117 := n1_; have BK118 := n2_; have HB := n3_; clear n0_ n1_ n2_ n3_; (try clear hb); (try clear hb2); (try clear hk); (try clear hi); have hcz15_0 : w14.cell? ⟨gb116, 0, none⟩ = some (.int .i64 a0_0) := (blk_cell BK116.out 0).trans rfl; have hcz15_1 : w14.cell? ⟨gb116, 1, none⟩ = some (.slice A0_1 l0_1.length c0_1) := (blk_cell BK116.out 1).trans rfl; have hfz15_0 := blk_frozen BK116.out 0; have hfz15_1 := blk_frozen BK116.out 1) | ((with_reducible refine gate_callee (f := 33) rfl ?_); refine goesL_ (some 19) rfl rfl Tryd.func33 (by kernel_rfl) rfl #[.agg #[.int .i64 a0_0, .slice A0_1 l0_1.length c0_1]] rfl (by (try simp only [List.map_toArray, List.map_cons, List.map_nil]); first | done | rfl | (simp only [List.length_drop, List.length_take]; rfl)) ?_; (with_reducible refine (words_clone.calls a0_0 _ _ l0_1 t120 t121 _ ?side1 ?side2 A5.out).mono ?_); (case side1 => repeat (first | exact (Kd.C_below HR0_1.out HB.out) | (with_reducible refine Kd.C_alloc ?_ _) | (with_reducible refine Kd.C_drewN ?_ _) | (with_reducible refine Kd.C_drew ?_))); (case side2 => exact HC0_1.out); rintro e w16 ⟨v122, rfl, ho0, hb⟩; refine ⟨_, rfl, ?_⟩; have n0_ := Aside0.mk (Kd.R_lower ho0 (below_size (by repeat (first | (with_reducible first | exact HB.out | apply below_alloc | apply pw_below_drewN | apply below_drew1 | refine below_set ?_ GE116.out | refine below_set ?_ GE117.out | refine below_set ?_ GE118.out) | exact HB.out)))); have n1_ := Aside0.mk (blk_below BK116.out hb); have n2_ := Aside0.mk (blk_below BK117.out hb); have n3_ := Aside0.mk (blk_below BK118.out hb); have n4_ := Aside0.mk (below_step (by repeat (first | (with_reducible first | exact HB.out | apply below_alloc | apply pw_below_drewN | apply below_drew1 | refine below_set ?_ GE116.out | refine below_set ?_ GE117.out | refine below_set ?_ GE118.out) | exact HB.out)) hb); clear BK116; clear BK117; clear BK118; clear HB; have HO123 := n0_; have BK116 := n1_; have BK117 := n2_; have BK118 := n3_; have HB := n4_; clear n0_ n1_ n2_ n3_ n4_; (try clear hb); (try clear hb2); (try clear hk); (try clear hi); (try clear ho0)) | ((with_reducible refine gate_dst (N := 7) rfl ?_); refine box_event ?hg (N := 7) ?hd (cs := #[.int .i64 0, .slice none 0 0]) (t := 24) ?hr ?_; (case hd => rfl); (case hg => rfl); (case hr => first | (go_simp; done) | (go_simp; rfl)); intro gb124 hg w17 hbox hb; have n0_ := Aside0.mk (Kd.R_below HO123.out hb); have n1_ := Aside0.mk (blk_below BK116.out hb); have n2_ := Aside0.mk (blk_below BK117.out hb); have n3_ := Aside0.mk (blk_below BK118.out hb); have n4_ := Aside0.mk (below_step (by repeat (first | (with_reducible first | exact HB.out | apply below_alloc | apply pw_below_drewN | apply below_drew1 | refine below_set ?_ GE116.out | refine below_set ?_ GE117.out | refine below_set ?_ GE118.out) | exact HB.out)) hb); have n5_ := Aside0.mk (hbox); have n6_ := Aside0.mk ((by rw [hg]; exact (below_size (by repeat (first | (with_reducible first | exact HB.out | apply below_alloc | apply pw_below_drewN | apply below_drew1 | refine below_set ?_ GE116.out | refine below_set ?_ GE117.out | refine below_set ?_ GE118.out) | exact HB.out))) : w.heap.size ≤ gb124)); have n7_ := Aside0.mk ((by rw [hg]; exact (below_size (by repeat (first | (with_reducible first | exact HB.out | apply below_alloc | apply pw_below_drewN | apply below_drew1 | refine below_set ?_ GE116.out | refine below_set ?_ GE117.out | refine below_set ?_ GE118.out) | exact HB.out))) : w.heap.size ≤ gb124)); have n8_ := Aside0.mk ((by rw [hg]; exact Nat.ne_of_lt (blk_lt BK116.out) : gb116 ≠ gb124)); have n9_ := Aside0.mk ((by rw [hg]; exact Nat.ne_of_gt (blk_lt BK116.out) : gb124 ≠ gb116)); have n10_ := Aside0.mk ((by rw [hg]; exact Nat.ne_of_lt (blk_lt BK117.out) : gb117 ≠ gb124)); have n11_ := Aside0.mk ((by rw [hg]; exact Nat.ne_of_gt (blk_lt BK117.out) : gb124 ≠ gb117)); have n12_ := Aside0.mk ((by rw [hg]; exact Nat.ne_of_lt (blk_lt BK118.out) : gb118 ≠ gb124)); have n13_ := Aside0.mk ((by rw [hg]; exact Nat.ne_of_gt (blk_lt BK118.out) : gb124 ≠ gb118)); clear HO123; clear BK116; clear BK117; clear BK118; clear HB; have HO123 := n0_; have BK116 := n1_; have BK117 := n2_; have BK118 := n3_; have HB := n4_; have BK124 := n5_; have GW124 := n6_; have GE124 := n7_; have NB116_124 := n8_; have NB124_116 := n9_; have NB117_124 := n10_; have NB124_117 := n11_; have NB118_124 := n12_; have NB124_118 := n13_; clear n0_ n1_ n2_ n3_ n4_ n5_ n6_ n7_ n8_ n9_ n10_ n11_ n12_ n13_; clear hb hbox hg; have hnb18 := NB124_116.out; have hnc18 := NB116_124.out; have hnb19 := NB124_117.out; have hnc19 := NB117_124.out; have hnb20 := NB124_118.out; have hnc20 := NB118_124.out; have hcz21_0 : w17.cell? ⟨gb124, 0, none⟩ = some (.int .i64 0) := (blk_cell BK124.out 0).trans rfl; have hcz21_1 : w17.cell? ⟨gb124, 1, none⟩ = some (.slice none 0 0) := (blk_cell BK124.out 1).trans rfl; have hfz21_0 := blk_frozen BK124.out 0; have hfz21_1 := blk_frozen BK124.out 1; obtain ⟨Ao22, co22, eo22⟩ := Kd.R_slice HO123.out; subst eo22; have hcz23_0 : w17.cell? ⟨gb117, 0, none⟩ = some (.int .i64 a1_0) := (blk_cell BK117.out 0).trans rfl; have hcz23_1 : w17.cell? ⟨gb117, 1, none⟩ = some (.slice A1_1 l1_1.length c1_1) := (blk_cell BK117.out 1).trans rfl; have hfz23_0 := blk_frozen BK117.out 0; have hfz23_1 := blk_frozen BK117.out 1))
    go_loopg [23] k (fun kq v23 w' => ∃ (x23_1 : Int) (x125001_1 : List Int) (u125001 : Value), v23 = .int .i64 x23_1 ∧ Aside0 (words_And.l0 kq l1_1 (l1_1.length : Int) x23_1 t120 x125001_1 = some (r1, r2, r3)) ∧ Aside0 (kq ≤ k) ∧ Aside0 (Kd.R (Kd.int .u64) 58 w' w.heap.size (fun _ => True) u125001 x125001_1) ∧ Aside0 (w'.heap[gb116]? = some (.cells #[.int .i64 a0_0, (.slice A0_1 l0_1.length c0_1)] 24 (0, 0))) ∧ Aside0 (w'.heap[gb117]? = some (.cells #[.int .i64 a1_0, (.slice A1_1 l1_1.length c1_1)] 24 (0, 0))) ∧ Aside0 (w'.heap[gb118]? = some (.cells #[.int .i64 0, (.slice none 0 0)] 24 (0, 0))) ∧ Aside0 (w'.heap[gb124]? = some (.cells #[.int .i64 t120, u125001] 24 (0, 0))) ∧ Aside0 (Below w.heap.size w w'))
    case atStart => exact ⟨(0), (t121), (.slice Ao22 t121.length co22), (by first | rfl | (simp; done) | (simp [*]; done) | (simp [wrap64]; done)), H', ⟨Nat.le_refl _⟩, ⟨by (with_reducible repeat (first | apply Kd.R_alloc | apply Kd.R_drewN | apply Kd.R_drew)); exact Kd.R_mono (Kd.R_far (p := ⟨gb124, 1, none⟩) (Kd.R_far (p := ⟨gb124, 0, none⟩) (Kd.R_types HO123.out BK124.out (by decide)) (fun _ hk => hk.2) (.int .i64 t120)) (fun _ hk => hk.2) (.slice Ao22 t121.length co22)) (fun _ hk => trivial)⟩, ⟨by (with_reducible repeat (first | refine blk_drewN ?_ _ | refine blk_drew ?_ | refine blk_alloc ?_ _)); refine blk_far ?_ NB116_124.out _; (with_reducible repeat (first | refine blk_drewN ?_ _ | refine blk_drew ?_ | refine blk_alloc ?_ _)); refine blk_far ?_ NB116_124.out _; (with_reducible repeat (first | refine blk_drewN ?_ _ | refine blk_drew ?_ | refine blk_alloc ?_ _)); exact BK116.out⟩, ⟨by (with_reducible repeat (first | refine blk_drewN ?_ _ | refine blk_drew ?_ | refine blk_alloc ?_ _)); refine blk_far ?_ NB117_124.out _; (with_reducible repeat (first | refine blk_drewN ?_ _ | refine blk_drew ?_ | refine blk_alloc ?_ _)); refine blk_far ?_ NB117_124.out _; (with_reducible repeat (first | refine blk_drewN ?_ _ | refine blk_drew ?_ | refine blk_alloc ?_ _)); exact BK117.out⟩, ⟨by (with_reducible repeat (first | refine blk_drewN ?_ _ | refine blk_drew ?_ | refine blk_alloc ?_ _)); refine blk_far ?_ NB118_124.out _; (with_reducible repeat (first | refine blk_drewN ?_ _ | refine blk_drew ?_ | refine blk_alloc ?_ _)); refine blk_far ?_ NB118_124.out _; (with_reducible repeat (first | refine blk_drewN ?_ _ | refine blk_drew ?_ | refine blk_alloc ?_ _)); exact BK118.out⟩, ⟨by (with_reducible repeat (first | refine blk_drewN ?_ _ | refine blk_drew ?_ | refine blk_alloc ?_ _)); refine blk_put (cs := #[.int .i64 t120, .slice none 0 0]) ?_ 1 _ rfl; (with_reducible repeat (first | refine blk_drewN ?_ _ | refine blk_drew ?_ | refine blk_alloc ?_ _)); refine blk_put (cs := #[.int .i64 0, .slice none 0 0]) ?_ 0 _ rfl; (with_reducible repeat (first | refine blk_drewN ?_ _ | refine blk_drew ?_ | refine blk_alloc ?_ _)); exact BK124.out⟩, ⟨by repeat (first | (with_reducible first | exact HB.out | apply below_alloc | apply pw_below_drewN | apply below_drew1 | refine below_set ?_ GE116.out | refine below_set ?_ GE117.out | refine below_set ?_ GE118.out | refine below_set ?_ GE124.out) | exact HB.out)⟩⟩
    case round =>
      clear H'
      try clear c1
      try clear c2
      try clear p2
      try clear c4
      try clear c4b0
      try clear c4b1
      try clear c5
      try clear c9
      try clear c10
      try clear c12
      try clear c18
      try clear c19
      try clear c20
      try clear hcz11_0
      try clear hcz11_1
      try clear hcz13_0
      try clear hcz13_1
      try clear hcz15_0
      try clear hcz15_1
      try clear hcz21_0
      try clear hcz21_1
      try clear hcz23_0
      try clear hcz23_1
      try clear hfz11_0
      try clear hfz11_1
      try clear hfz13_0
      try clear hfz13_1
      try clear hfz15_0
      try clear hfz15_1
      try clear hfz21_0
      try clear hfz21_1
      try clear hfz23_0
      try clear hfz23_1
      obtain ⟨x23_1, x125001_1, u125001, rfl, HA, HK1, HO_125001, BK116, BK117, BK118, BK124, HB⟩ := hrel
      cases gk with
      | zero => exact absurd HA.out (by simp [words_And.l0])
      | succ k1 =>
        have H := HA.out
        clear HA
        simp only [words_And.l0] at H
        by_cases c24 : x23_1 < (l1_1.length : Int)
        · rw [if_pos c24] at H
          have c24b0 : decide (x23_1 < (l1_1.length : Int)) = true := decide_eq_true c24
          clear c24
          by_cases c25 : 0 ≤ x23_1
          · rw [if_pos c25] at H
            have c25b0 : decide (0 ≤ x23_1) = true := decide_eq_true c25
            clear c25
            by_cases c26 : x23_1 < (l1_1.length : Int)
            · rw [if_pos c26] at H
              have c26b0 : decide (x23_1 < (l1_1.length : Int)) = true := decide_eq_true c26
              clear c26
              by_cases c27 : x23_1 < (x125001_1.length : Int)
              · rw [if_pos c27] at H
                have c27b0 : decide (x23_1 < (x125001_1.length : Int)) = true := decide_eq_true c27
                clear c27
                obtain ⟨y127, hy127⟩ : ∃ y_ : List Int, y_ = (x125001_1.set (x23_1 : Int).toNat (Go.bits .and .u64 (rd x125001_1 x23_1) (rd l1_1 x23_1))) := ⟨_, rfl⟩
                replace H : (words_And.l0 k1 l1_1 (l1_1.length : Int) (wrap64 (x23_1 + 1)) t120 y127) = some (r1, r2, r3) := by first | (rw [hy127]; with_reducible exact H) | (have H2_ := (Option.bind_some _ _).symm.trans H; rw [hy127]; with_reducible exact H2_) | (have H2_ := (Option.bind_some _ _).symm.trans H; with_reducible exact H2_) | with_reducible exact H | (rw [hy127]; exact H) | exact H
                have Ny127 := Aside0.mk hy127
                clear hy127
                have H' := Aside0.mk H
                clear H
                have p125 : 0 ≤ (x23_1 : Int) := of_decide_eq_true (by first | (with_reducible assumption) | assumption)
                have q125 : x23_1 < (l1_1.length : Int) := of_decide_eq_true (by first | (with_reducible assumption) | assumption)
                obtain ⟨ad125, e125, hx125_0⟩ := Kd.at_int HR1_1.out x23_1 p125 q125
                cases e125
                replace hx125_0 := (HB.out.cell (World.block_lt_of_cell? w _ hx125_0)).trans hx125_0
                replace p125 := eq_true p125
                replace q125 := eq_true q125
                have hnb29 := NB124_116.out
                have hnc29 := NB116_124.out
                have hnb30 := NB124_117.out
                have hnc30 := NB117_124.out
                have hnb31 := NB124_118.out
                have hnc31 := NB118_124.out
                have hcz32_0 : wr.cell? ⟨gb124, 0, none⟩ = some (.int .i64 t120) := (blk_cell BK124.out 0).trans rfl
                have hcz32_1 : wr.cell? ⟨gb124, 1, none⟩ = some (u125001) := (blk_cell BK124.out 1).trans rfl
                have hfz32_0 := blk_frozen BK124.out 0
                have hfz32_1 := blk_frozen BK124.out 1
                obtain ⟨Ao33, co33, eo33⟩ := Kd.R_slice HO_125001.out
                subst eo33
                have p126 : 0 ≤ (x23_1 : Int) := of_decide_eq_true (by first | (with_reducible assumption) | assumption)
                have q126 : x23_1 < (x125001_1.length : Int) := of_decide_eq_true (by first | (with_reducible assumption) | assumption)
                obtain ⟨ad126, e126, hx126_0⟩ := Kd.at_int (Kd.R_reads' HO_125001.out).2.2 x23_1 p126 q126
                cases e126
                replace p126 := eq_true p126
                replace q126 := eq_true q126
                have p28 : 0 ≤ (x23_1 : Int) := of_decide_eq_true (by first | (with_reducible assumption) | assumption)
                have q28 : (x23_1 : Int) < ((x125001_1.length : Int) : Int) := of_decide_eq_true (by first | (with_reducible assumption) | assumption)
                obtain ⟨go28, co28, eo28, gb28, gl28, cl28, HG28⟩ := Kd.R_form HO_125001.out (by omega)
                (first | cases eo28 | (injection eo28 with ea_ en_ ec_; (first | subst ea_ | (injection ea_ with ea_; subst ea_)); subst ec_; clear en_))
                have GB28 := Aside0.mk gb28
                have GG28 := Aside0.mk HG28
                clear gb28 gl28 HG28
                (first | simp only [add_plain] at hx126_0 | skip)
                obtain ⟨hx28_0, hf28_0⟩ := Kd.R_celln 0 HO_125001.out (x23_1 : Int) p28 q28
                replace p28 := eq_true p28
                replace q28 := eq_true q28
                have HP34 := Kd.R_putg HO_125001.out (x23_1 : Int) (Go.bits .and .u64 (rd x125001_1 x23_1) (rd l1_1 x23_1))
                go_wp2_with (first | ((with_reducible refine gate_store (t := 58) (p := 35) rfl ?_); refine store_event (t := 58) (p := 35) (v := ?vo_w35) (w1 := (wr.setCell ⟨go28, (x23_1 : Int).toNat, none⟩ (.int .u64 (Go.bits .and .u64 (rd x125001_1 x23_1) (rd l1_1 x23_1))))) ?hg ?ho ?hn ?hr ?_; (case ho => rfl); (case hg => rfl); (case hn => rfl); (case hr => first | (go_simp; done) | (go_simp; rfl)); intro w35 hw; have hg : wr.grownBy w35 (some go28) := (by rw [hw]; exact HP34.2); have hp_ : Kd.R (Kd.int .u64) 58 w35 w.heap.size (fun _ => True) (.slice (some ⟨go28, 0, none⟩) x125001_1.length co33) y127 := (by rw [hw, Ny127.out]; exact HP34.1); clear HP34; have n0_ := Aside0.mk (hp_); have n1_ := Aside0.mk (blk_grown (g := gb116) (o := .cells #[.int .i64 a0_0, .slice A0_1 l0_1.length c0_1] 24 (0, 0)) (by (with_reducible repeat (first | refine blk_drewN ?_ _ | refine blk_drew ?_ | refine blk_alloc ?_ _)); exact BK116.out) hg (Kd.R_ne HO_125001.out BK116.out (by decide))); have n2_ := Aside0.mk (blk_grown (g := gb117) (o := .cells #[.int .i64 a1_0, .slice (some ad125) l1_1.length c1_1] 24 (0, 0)) (by (with_reducible repeat (first | refine blk_drewN ?_ _ | refine blk_drew ?_ | refine blk_alloc ?_ _)); exact BK117.out) hg (Kd.R_ne HO_125001.out BK117.out (by decide))); have n3_ := Aside0.mk (blk_grown (g := gb118) (o := .cells #[.int .i64 0, .slice none 0 0] 24 (0, 0)) (by (with_reducible repeat (first | refine blk_drewN ?_ _ | refine blk_drew ?_ | refine blk_alloc ?_ _)); exact BK118.out) hg (Kd.R_ne HO_125001.out BK118.out (by decide))); have n4_ := Aside0.mk (blk_grown (g := gb124) (o := .cells #[.int .i64 t120, .slice (some ⟨go28, 0, none⟩) x125001_1.length co33] 24 (0, 0)) (by (with_reducible repeat (first | refine blk_drewN ?_ _ | refine blk_drew ?_ | refine blk_alloc ?_ _)); exact BK124.out) hg (Kd.R_ne HO_125001.out BK124.out (by decide))); have n5_ := Aside0.mk ((by rw [hw]; exact below_set (HB.out) GB28.out : Below w.heap.size w w35)); clear HO_125001; clear BK116; clear BK117; clear BK118; clear BK124; clear HB; have HO_125001 := n0_; have BK116 := n1_; have BK117 := n2_; have BK118 := n3_; have BK124 := n4_; have HB := n5_; clear n0_ n1_ n2_ n3_ n4_ n5_; clear hg hw hp_))
                go_roundg k1
                case measure => have := HK1.out; omega
                case rel => exact ⟨(wrap64 (x23_1 + 1)), (y127), (.slice (some ⟨go28, 0, none⟩) x125001_1.length co33), (by first | rfl | (simp; done) | (simp [*]; done) | (simp [wrap64]; done)), H', ⟨by have := HK1.out; omega⟩, ⟨by (with_reducible repeat (first | apply Kd.R_alloc | apply Kd.R_drewN | apply Kd.R_drew)); exact HO_125001.out⟩, ⟨by (with_reducible repeat (first | refine blk_drewN ?_ _ | refine blk_drew ?_ | refine blk_alloc ?_ _)); exact BK116.out⟩, ⟨by (with_reducible repeat (first | refine blk_drewN ?_ _ | refine blk_drew ?_ | refine blk_alloc ?_ _)); exact BK117.out⟩, ⟨by (with_reducible repeat (first | refine blk_drewN ?_ _ | refine blk_drew ?_ | refine blk_alloc ?_ _)); exact BK118.out⟩, ⟨by (with_reducible repeat (first | refine blk_drewN ?_ _ | refine blk_drew ?_ | refine blk_alloc ?_ _)); exact BK124.out⟩, ⟨by repeat (first | (with_reducible first | exact HB.out | apply below_alloc | apply pw_below_drewN | apply below_drew1 | refine below_set ?_ GE116.out | refine below_set ?_ GE117.out | refine below_set ?_ GE118.out | refine below_set ?_ GE124.out) | exact HB.out)⟩⟩
              · rw [if_neg c27] at H
                exact absurd H (by simp)
            · rw [if_neg c26] at H
              exact absurd H (by simp)
          · rw [if_neg c25] at H
            exact absurd H (by simp)
        · rw [if_neg c24] at H
          have c24b0 : decide (x23_1 < (l1_1.length : Int)) = false := decide_eq_false c24
          clear c24
          simp only [Option.some.injEq, Prod.mk.injEq] at H
          obtain ⟨rfl, rfl, rfl⟩ := H
          have hnb36 := NB124_116.out
          have hnc36 := NB116_124.out
          have hnb37 := NB124_117.out
          have hnc37 := NB117_124.out
          have hnb38 := NB124_118.out
          have hnc38 := NB118_124.out
          have hcz39_0 : wr.cell? ⟨gb124, 0, none⟩ = some (.int .i64 t120) := (blk_cell BK124.out 0).trans rfl
          have hcz39_1 : wr.cell? ⟨gb124, 1, none⟩ = some (u125001) := (blk_cell BK124.out 1).trans rfl
          have hfz39_0 := blk_frozen BK124.out 0
          have hfz39_1 := blk_frozen BK124.out 1
          have hnb40 := NB118_116.out
          have hnc40 := NB116_118.out
          have hnb41 := NB118_117.out
          have hnc41 := NB117_118.out
          have hcz42_0 : wr.cell? ⟨gb118, 0, none⟩ = some (.int .i64 0) := (blk_cell BK118.out 0).trans rfl
          have hcz42_1 : wr.cell? ⟨gb118, 1, none⟩ = some (.slice none 0 0) := (blk_cell BK118.out 1).trans rfl
          have hfz42_0 := blk_frozen BK118.out 0
          have hfz42_1 := blk_frozen BK118.out 1
          obtain ⟨Ao43, co43, eo43⟩ := Kd.R_slice HO_125001.out
          subst eo43
          go_wp2
          refine bodyPost_ret (results_ct rfl _ _ gb118 24 #[.int .i64 t120, .slice Ao43 x125001_1.length co43] (0, 0) _ rfl (by (with_reducible repeat (first | refine blk_drewN ?_ _ | refine blk_drew ?_ | refine blk_alloc ?_ _)); refine blk_put (cs := #[.int .i64 t120, .slice none 0 0]) ?_ 1 _ rfl; (with_reducible repeat (first | refine blk_drewN ?_ _ | refine blk_drew ?_ | refine blk_alloc ?_ _)); refine blk_put (cs := #[.int .i64 0, .slice none 0 0]) ?_ 0 _ rfl; (with_reducible repeat (first | refine blk_drewN ?_ _ | refine blk_drew ?_ | refine blk_alloc ?_ _)); exact BK118.out) Tryd.underlying24 rfl (by kernel_rfl)) rfl ?_
          exact ⟨_, by first | rfl | (simp [errW_none, errW_some] <;> rfl) | (simp [*, errW_none, errW_some] <;> rfl), by (with_reducible repeat (first | apply Kd.R_alloc | apply Kd.R_drewN | apply Kd.R_drew)); exact Kd.R_mono (Kd.R_far (p := ⟨gb118, 1, none⟩) (Kd.R_far (p := ⟨gb118, 0, none⟩) (Kd.R_types HO_125001.out BK118.out (by decide)) (fun _ hk => hk.2) (.int .i64 t120)) (fun _ hk => hk.2) (.slice Ao43 x125001_1.length co43)) (fun _ hk => trivial), by repeat (first | (with_reducible first | exact HB.out | apply below_alloc | apply pw_below_drewN | apply below_drew1 | refine below_set ?_ GE116.out | refine below_set ?_ GE117.out | refine below_set ?_ GE118.out | refine below_set ?_ GE124.out) | exact HB.out)⟩
  · rw [if_neg c4] at H
    have c4b0 : (t119 == 0) = false := beq_eq_false_iff_ne.mpr c4
    have c4b1 : (t119 != 0) = true := bne_iff_ne.mpr c4
    simp only [Option.some.injEq, Prod.mk.injEq] at H
    obtain ⟨rfl, rfl, rfl⟩ := H
    go_enter Tryd.func23, Tryd.ntmps23
    go_wp2_with (first | ((with_reducible refine gate_dst (N := 2) rfl ?_); refine box_event ?hg (N := 2) ?hd (cs := #[.int .i64 a0_0, .slice A0_1 l0_1.length c0_1]) (t := 24) ?hr ?_; (case hd => rfl); (case hg => rfl); (case hr => first | (go_simp; done) | (go_simp; rfl)); intro gb116 hg w44 hbox hb; have n0_ := Aside0.mk (below_step (by repeat (first | (with_reducible first | exact HB.out | apply below_alloc | apply pw_below_drewN | apply below_drew1) | exact HB.out)) hb); have n1_ := Aside0.mk (hbox); have n2_ := Aside0.mk ((by rw [hg]; exact (below_size (by repeat (first | (with_reducible first | exact HB.out | apply below_alloc | apply pw_below_drewN | apply below_drew1) | exact HB.out))) : w.heap.size ≤ gb116)); have n3_ := Aside0.mk ((by rw [hg]; exact (below_size (by repeat (first | (with_reducible first | exact HB.out | apply below_alloc | apply pw_below_drewN | apply below_drew1) | exact HB.out))) : w.heap.size ≤ gb116)); clear HB; have HB := n0_; have BK116 := n1_; have GW116 := n2_; have GE116 := n3_; clear n0_ n1_ n2_ n3_; clear hb hbox hg) | ((with_reducible refine gate_dst (N := 3) rfl ?_); refine box_event ?hg (N := 3) ?hd (cs := #[.int .i64 a1_0, .slice A1_1 l1_1.length c1_1]) (t := 24) ?hr ?_; (case hd => rfl); (case hg => rfl); (case hr => first | (go_simp; done) | (go_simp; rfl)); intro gb117 hg w45 hbox hb; have n0_ := Aside0.mk (blk_below BK116.out hb); have n1_ := Aside0.mk (below_step (by repeat (first | (with_reducible first | exact HB.out | apply below_alloc | apply pw_below_drewN | apply below_drew1 | refine below_set ?_ GE116.out) | exact HB.out)) hb); have n2_ := Aside0.mk (hbox); have n3_ := Aside0.mk ((by rw [hg]; exact (below_size (by repeat (first | (with_reducible first | exact HB.out | apply below_alloc | apply pw_below_drewN | apply below_drew1 | refine below_set ?_ GE116.out) | exact HB.out))) : w.heap.size ≤ gb117)); have n4_ := Aside0.mk ((by rw [hg]; exact (below_size (by repeat (first | (with_reducible first | exact HB.out | apply below_alloc | apply pw_below_drewN | apply below_drew1 | refine below_set ?_ GE116.out) | exact HB.out))) : w.heap.size ≤ gb117)); have n5_ := Aside0.mk ((by rw [hg]; exact Nat.ne_of_lt (blk_lt BK116.out) : gb116 ≠ gb117)); have n6_ := Aside0.mk ((by rw [hg]; exact Nat.ne_of_gt (blk_lt BK116.out) : gb117 ≠ gb116)); clear BK116; clear HB; have BK116 := n0_; have HB := n1_; have BK117 := n2_; have GW117 := n3_; have GE117 := n4_; have NB116_117 := n5_; have NB117_116 := n6_; clear n0_ n1_ n2_ n3_ n4_ n5_ n6_; clear hb hbox hg) | ((with_reducible refine gate_dst (N := 4) rfl ?_); refine box_event ?hg (N := 4) ?hd (cs := #[.int .i64 0, .slice none 0 0]) (t := 24) ?hr ?_; (case hd => rfl); (case hg => rfl); (case hr => first | (go_simp; done) | (go_simp; rfl)); intro gb118 hg w46 hbox hb; have n0_ := Aside0.mk (blk_below BK116.out hb); have n1_ := Aside0.mk (blk_below BK117.out hb); have n2_ := Aside0.mk (below_step (by repeat (first | (with_reducible first | exact HB.out | apply below_alloc | apply pw_below_drewN | apply below_drew1 | refine below_set ?_ GE116.out | refine below_set ?_ GE117.out) | exact HB.out)) hb); have n3_ := Aside0.mk (hbox); have n4_ := Aside0.mk ((by rw [hg]; exact (below_size (by repeat (first | (with_reducible first | exact HB.out | apply below_alloc | apply pw_below_drewN | apply below_drew1 | refine below_set ?_ GE116.out | refine below_set ?_ GE117.out) | exact HB.out))) : w.heap.size ≤ gb118)); have n5_ := Aside0.mk ((by rw [hg]; exact (below_size (by repeat (first | (with_reducible first | exact HB.out | apply below_alloc | apply pw_below_drewN | apply below_drew1 | refine below_set ?_ GE116.out | refine below_set ?_ GE117.out) | exact HB.out))) : w.heap.size ≤ gb118)); have n6_ := Aside0.mk ((by rw [hg]; exact Nat.ne_of_lt (blk_lt BK116.out) : gb116 ≠ gb118)); have n7_ := Aside0.mk ((by rw [hg]; exact Nat.ne_of_gt (blk_lt BK116.out) : gb118 ≠ gb116)); have n8_ := Aside0.mk ((by rw [hg]; exact Nat.ne_of_lt (blk_lt BK117.out) : gb117 ≠ gb118)); have n9_ := Aside0.mk ((by rw [hg]; exact Nat.ne_of_gt (blk_lt BK117.out) : gb118 ≠ gb117)); clear BK116; clear BK117; clear HB; have BK116 := n0_; have BK117 := n1_; have HB := n2_; have BK118 := n3_; have GW118 := n4_; have GE118 := n5_; have NB116_118 := n6_; have NB118_116 := n7_; have NB117_118 := n8_; have NB118_117 := n9_; clear n0_ n1_ n2_ n3_ n4_ n5_ n6_ n7_ n8_ n9_; clear hb hbox hg; have hnb47 := NB116_117.out; have hnc47 := NB117_116.out; have hnb48 := NB116_118.out; have hnc48 := NB118_116.out; have hcz49_0 : w46.cell? ⟨gb116, 0, none⟩ = some (.int .i64 a0_0) := (blk_cell BK116.out 0).trans rfl; have hcz49_1 : w46.cell? ⟨gb116, 1, none⟩ = some (.slice A0_1 l0_1.length c0_1) := (blk_cell BK116.out 1).trans rfl; have hfz49_0 := blk_frozen BK116.out 0; have hfz49_1 := blk_frozen BK116.out 1; have hnb50 := NB117_118.out; have hnc50 := NB118_117.out; have hcz51_0 : w46.cell? ⟨gb117, 0, none⟩ = some (.int .i64 a1_0) := (blk_cell BK117.out 0).trans rfl; have hcz51_1 : w46.cell? ⟨gb117, 1, none⟩ = some (.slice A1_1 l1_1.length c1_1) := (blk_cell BK117.out 1).trans rfl; have hfz51_0 := blk_frozen BK117.out 0; have hfz51_1 := blk_frozen BK117.out 1) | ((with_reducible refine gate_dst (N := 12) rfl ?_); refine lit_event (N := 12) (cs := #[.int .i64 a0_0, .slice A0_1 l0_1.length c0_1, .int .i64 a1_0, .slice A1_1 l1_1.length c1_1]) (t := 24) 2 rfl rfl (by first | (go_simp; done) | (go_simp; rfl)) ?_; intro gl_ hgl_ wl_ hbox_ hb; have k0_ := Aside0.mk (blk_below BK116.out hb); have k1_ := Aside0.mk (blk_below BK117.out hb); have k2_ := Aside0.mk (blk_below BK118.out hb); have kb_ := Aside0.mk (below_step HB.out hb); clear HB BK116 BK117 BK118; have BK116 := k0_; have BK117 := k1_; have BK118 := k2_; have HB := kb_; have HL_ := Aside0.mk (C_two31 (x := ⟨a0_0, l0_1⟩) (y := ⟨a1_0, l1_1⟩) hbox_ HC0_1.out HC1_1.out (Kd.C_below HR0_1.out HB.out) (Kd.C_below HR1_1.out HB.out)); clear hbox_ hb hgl_ kb_ k0_ k1_ k2_) | ((with_reducible refine gate_callee (f := 42) rfl ?_); refine goesL_ (some 13) rfl rfl Tryd.func42 (by kernel_rfl) rfl #[.slice (some ⟨gl_, 0, none⟩) 2 2] rfl (by (try simp only [List.map_toArray, List.map_cons, List.map_nil]); first | done | rfl | (simp only [List.length_drop, List.length_take]; rfl)) ?_; (refine (words_fits.calls k (some ⟨gl_, 0, none⟩) 2 [⟨a0_0, l0_1⟩, ⟨a1_0, l1_1⟩] t119 _ ?side1 ?side2 A3.out).mono ?_); (case side1 => exact HL_.out); (case side2 => exact Nat.le_refl _); rintro e w52 ⟨rfl, hb⟩; refine ⟨_, rfl, ?_⟩; have n0_ := Aside0.mk (blk_below BK116.out hb); have n1_ := Aside0.mk (blk_below BK117.out hb); have n2_ := Aside0.mk (blk_below BK118.out hb); have n3_ := Aside0.mk (below_step (by repeat (first | (with_reducible first | exact HB.out | apply below_alloc | apply pw_below_drewN | apply below_drew1 | refine below_set ?_ GE116.out | refine below_set ?_ GE117.out | refine below_set ?_ GE118.out) | exact HB.out)) hb); clear BK116; clear BK117; clear BK118; clear HB; have BK116 := n0_; have BK117 := n1_; have BK118 := n2_; have HB := n3_; clear n0_ n1_ n2_ n3_; (try clear hb); (try clear hb2); (try clear hk); (try clear hi); have hcz53_0 : w52.cell? ⟨gb118, 0, none⟩ = some (.int .i64 0) := (blk_cell BK118.out 0).trans rfl; have hcz53_1 : w52.cell? ⟨gb118, 1, none⟩ = some (.slice none 0 0) := (blk_cell BK118.out 1).trans rfl; have hfz53_0 := blk_frozen BK118.out 0; have hfz53_1 := blk_frozen BK118.out 1))
    refine bodyPost_ret (results_ct rfl _ _ gb118 24 #[.int .i64 0, .slice none 0 0] (0, 0) _ rfl (by (with_reducible repeat (first | refine blk_drewN ?_ _ | refine blk_drew ?_ | refine blk_alloc ?_ _)); refine blk_put (cs := #[.int .i64 0, .slice none 0 0]) ?_ 1 _ rfl; (with_reducible repeat (first | refine blk_drewN ?_ _ | refine blk_drew ?_ | refine blk_alloc ?_ _)); refine blk_put (cs := #[.int .i64 0, .slice none 0 0]) ?_ 0 _ rfl; (with_reducible repeat (first | refine blk_drewN ?_ _ | refine blk_drew ?_ | refine blk_alloc ?_ _)); exact BK118.out) Tryd.underlying24 rfl (by kernel_rfl)) rfl ?_
    exact ⟨_, by first | rfl | (simp [errW_none, errW_some] <;> rfl) | (simp [*, errW_none, errW_some] <;> rfl), by first | exact Kd.R_nil _ _ _ _ _ | exact Kd.N_nil _ _ _ _ _ | exact Kd.V_nil _ _ _ _ _ | exact Kd.Q_nil _ _ _ _ _ | exact Kd.S_nil _ _ _ _ _, by repeat (first | (with_reducible first | exact HB.out | apply below_alloc | apply pw_below_drewN | apply below_drew1 | refine below_set ?_ GE116.out | refine below_set ?_ GE117.out | refine below_set ?_ GE118.out) | exact HB.out)⟩
def words_Xor.l0 : Nat → List Int → Int → Int → Int → List Int → Option (Int × List Int × Int)
  | 0, _, _, _, _, _ => none
  | k + 1, x21, x22, x23, x149000, x149001 => if x23 < x22 then (if 0 ≤ x23 then (if x23 < (x21.length : Int) then (if x23 < (x149001.length : Int) then (words_Xor.l0 k x21 x22 (wrap64 (x23 + 1)) x149000 (x149001.set (x23 : Int).toNat (Go.bits .xor .u64 (rd x149001 x23) (rd x21 x23)))) else (none)) else (none)) else (none)) else (some (x149000, x149001, 0))
def words_Xor.f (k : Nat) (a0_0 : Int) (l0_1 : List Int) (a1_0 : Int) (l1_1 : List Int) : Option (Int × List Int × Int) := (words_fits.f k [⟨a0_0, l0_1⟩, ⟨a1_0, l1_1⟩]).bind fun t143 => (if t143 = 0 then ((words_clone.f a0_0 l0_1).bind fun bt144 => (words_Xor.l0 k l1_1 (l1_1.length : Int) 0 bt144.1 bt144.2)) else (some (0, ([] : List Int), t143)))
set_option maxHeartbeats 8000000 in
set_option maxRecDepth 100000 in
theorem words_Xor.calls (k : Nat) (a0_0 : Int) (A0_1 : Option Addr) (c0_1 : Nat) (l0_1 : List Int) (a1_0 : Int) (A1_1 : Option Addr) (c1_1 : Nat) (l1_1 : List Int) (r1 : Int) (r2 : List Int) (r3 : Int) (w : World) (hr0_1 : Kd.C (Kd.int .u64) w A0_1 l0_1.length l0_1) (hc0_1 : l0_1.length ≤ c0_1) (hr1_1 : Kd.C (Kd.int .u64) w A1_1 l1_1.length l1_1) (hc1_1 : l1_1.length ≤ c1_1) (h : words_Xor.f k a0_0 l0_1 a1_0 l1_1 = some (r1, r2, r3)) :
    Calls Tryd.prog 24 #[.agg #[.int .i64 a0_0, .slice A0_1 l0_1.length c0_1], .agg #[.int .i64 a1_0, .slice A1_1 l1_1.length c1_1]] w fun e w' => ∃ v1_ : Value, e = .returned (.tuple #[.agg #[.int .i64 r1, v1_], .int .i64 r3]) ∧ Kd.R (Kd.int .u64) 58 w' w.heap.size (fun _ => True) v1_ r2 ∧ Below w.heap.size w w' := by
  have hu31 := Tryd.underlying24
  have HR0_1 := Aside0.mk hr0_1
  have HC0_1 := Aside0.mk hc0_1
  clear hr0_1 hc0_1
  have HR1_1 := Aside0.mk hr1_1
  have HC1_1 := Aside0.mk hc1_1
  clear hr1_1 hc1_1
  have HB := Aside0.mk (Below.refl w.heap.size w)
  have H : ((words_fits.f k [⟨a0_0, l0_1⟩, ⟨a1_0, l1_1⟩]).bind fun t143 => (if t143 = 0 then ((words_clone.f a0_0 l0_1).bind fun bt144 => (words_Xor.l0 k l1_1 (l1_1.length : Int) 0 bt144.1 bt144.2)) else (some (0, ([] : List Int), t143)))) = some (r1, r2, r3) := h
  clear h
  replace H := Option.bind_eq_some_iff.mp H
  obtain ⟨t143, A30, H⟩ := H
  replace H : (if t143 = 0 then ((words_clone.f a0_0 l0_1).bind fun bt144 => (words_Xor.l0 k l1_1 (l1_1.length : Int) 0 bt144.1 bt144.2)) else (some (0, ([] : List Int), t143))) = some (r1, r2, r3) := H
  have A3 := Aside0.mk A30
  clear A30
  by_cases c4 : t143 = 0
  · rw [if_pos c4] at H
    have c4b0 : (t143 == 0) = true := beq_iff_eq.mpr c4
    have c4b1 : (t143 != 0) = false := bne_eq_false_iff_eq.mpr c4
    clear c4
    replace H := Option.bind_eq_some_iff.mp H
    obtain ⟨⟨t144, t145⟩, A50, H⟩ := H
    replace H : (words_Xor.l0 k l1_1 (l1_1.length : Int) 0 t144 t145) = some (r1, r2, r3) := H
    have A5 := Aside0.mk A50
    clear A50
    have H' := Aside0.mk H
    clear H
    go_enter Tryd.func24, Tryd.ntmps24
    go_wp2_with (first | ((with_reducible refine gate_dst (N := 2) rfl ?_); refine box_event ?hg (N := 2) ?hd (cs := #[.int .i64 a0_0, .slice A0_1 l0_1.length c0_1]) (t := 24) ?hr ?_; (case hd => rfl); (case hg => rfl); (case hr => first | (go_simp; done) | (go_simp; rfl)); intro gb140 hg w6 hbox hb; have n0_ := Aside0.mk (below_step (by repeat (first | (with_reducible first | exact HB.out | apply below_alloc | apply pw_below_drewN | apply below_drew1) | exact HB.out)) hb); have n1_ := Aside0.mk (hbox); have n2_ := Aside0.mk ((by rw [hg]; exact (below_size (by repeat (first | (with_reducible first | exact HB.out | apply below_alloc | apply pw_below_drewN | apply below_drew1) | exact HB.out))) : w.heap.size ≤ gb140)); have n3_ := Aside0.mk ((by rw [hg]; exact (below_size (by repeat (first | (with_reducible first | exact HB.out | apply below_alloc | apply pw_below_drewN | apply below_drew1) | exact HB.out))) : w.heap.size ≤ gb140)); clear HB; have HB := n0_; have BK140 := n1_; have GW140 := n2_; have GE140 := n3_; clear n0_ n1_ n2_ n3_; clear hb hbox hg) | ((with_reducible refine gate_dst (N := 3) rfl ?_); refine box_event ?hg (N := 3) ?hd (cs := #[.int .i64 a1_0, .slice A1_1 l1_1.length c1_1]) (t := 24) ?hr ?_; (case hd => rfl); (case hg => rfl); (case hr => first | (go_simp; done) | (go_simp; rfl)); intro gb141 hg w7 hbox hb; have n0_ := Aside0.mk (blk_below BK140.out hb); have n1_ := Aside0.mk (below_step (by repeat (first | (with_reducible first | exact HB.out | apply below_alloc | apply pw_below_drewN | apply below_drew1 | refine below_set ?_ GE140.out) | exact HB.out)) hb); have n2_ := Aside0.mk (hbox); have n3_ := Aside0.mk ((by rw [hg]; exact (below_size (by repeat (first | (with_reducible first | exact HB.out | apply below_alloc | apply pw_below_drewN | apply below_drew1 | refine below_set ?_ GE140.out) | exact HB.out))) : w.heap.size ≤ gb141)); have n4_ := Aside0.mk ((by rw [hg]; exact (below_size (by repeat (first | (with_reducible first | exact HB.out | apply below_alloc | apply pw_below_drewN | apply below_drew1 | refine below_set ?_ GE140.out) | exact HB.out))) : w.heap.size ≤ gb141)); have n5_ := Aside0.mk ((by rw [hg]; exact Nat.ne_of_lt (blk_lt BK140.out) : gb140 ≠ gb141)); have n6_ := Aside0.mk ((by rw [hg]; exact Nat.ne_of_gt (blk_lt BK140.out) : gb141 ≠ gb140)); clear BK140; clear HB; have BK140 := n0_; have HB := n1_; have BK141 := n2_; have GW141 := n3_; have GE141 := n4_; have NB140_141 := n5_; have NB141_140 := n6_; clear n0_ n1_ n2_ n3_ n4_ n5_ n6_; clear hb hbox hg) | ((with_reducible refine gate_dst (N := 4) rfl ?_); refine box_event ?hg (N := 4) ?hd (cs := #[.int .i64 0, .slice none 0 0]) (t := 24) ?hr ?_; (case hd => rfl); (case hg => rfl); (case hr => first | (go_simp; done) | (go_simp; rfl)); intro gb142 hg w8 hbox hb; have n0_ := Aside0.mk (blk_below BK140.out hb); have n1_ := Aside0.mk (blk_below BK141.out hb); have n2_ := Aside0.mk (below_step (by repeat (first | (with_reducible first | exact HB.out | apply below_alloc | apply pw_below_drewN | apply below_drew1 | refine below_set ?_ GE140.out | refine below_set ?_ GE141.out) | exact HB.out)) hb); have n3_ := Aside0.mk (hbox); have n4_ := Aside0.mk ((by rw [hg]; exact (below_size (by repeat (first | (with_reducible first | exact HB.out | apply below_alloc | apply pw_below_drewN | apply below_drew1 | refine below_set ?_ GE140.out | refine below_set ?_ GE141.out) | exact HB.out))) : w.heap.size ≤ gb142)); have n5_ := Aside0.mk ((by rw [hg]; exact (below_size (by repeat (first | (with_reducible first | exact HB.out | apply below_alloc | apply pw_below_drewN | apply below_drew1 | refine below_set ?_ GE140.out | refine below_set ?_ GE141.out) | exact HB.out))) : w.heap.size ≤ gb142)); have n6_ := Aside0.mk ((by rw [hg]; exact Nat.ne_of_lt (blk_lt BK140.out) : gb140 ≠ gb142)); have n7_ := Aside0.mk ((by rw [hg]; exact Nat.ne_of_gt (blk_lt BK140.out) : gb142 ≠ gb140)); have n8_ := Aside0.mk ((by rw [hg]; exact Nat.ne_of_lt (blk_lt BK141.out) : gb141 ≠ gb142)); have n9_ := Aside0.mk ((by rw [hg]; exact Nat.ne_of_gt (blk_lt BK141.out) : gb142 ≠ gb141)); clear BK140; clear BK141; clear HB; have BK140 := n0_; have BK141 := n1_; have HB := n2_; have BK142 := n3_; have GW142 := n4_; have GE142 := n5_; have NB140_142 := n6_; have NB142_140 := n7_; have NB141_142 := n8_; have NB142_141 := n9_; clear n0_ n1_ n2_ n3_ n4_ n5_ n6_ n7_ n8_ n9_; clear hb hbox hg; have hnb9 := NB140_141.out; have hnc9 := NB141_140.out; have hnb10 := NB140_142.out; have hnc10 := NB142_140.out; have hcz11_0 : w8.cell? ⟨gb140, 0, none⟩ = some (.int .i64 a0_0) := (blk_cell BK140.out 0).trans rfl; have hcz11_1 : w8.cell? ⟨gb140, 1, none⟩ = some (.slice A0_1 l0_1.length c0_1) := (blk_cell BK140.out 1).trans rfl; have hfz11_0 := blk_frozen BK140.out 0; have hfz11_1 := blk_frozen BK140.out 1; have hnb12 := NB141_142.out; have hnc12 := NB142_141.out; have hcz13_0 : w8.cell? ⟨gb141, 0, none⟩ = some (.int .i64 a1_0) := (blk_cell BK141.out 0).trans rfl; have hcz13_1 : w8.cell? ⟨gb141, 1, none⟩ = some (.slice A1_1 l1_1.length c1_1) := (blk_cell BK141.out 1).trans rfl; have hfz13_0 := blk_frozen BK141.out 0; have hfz13_1 := blk_frozen BK141.out 1) | ((with_reducible refine gate_dst (N := 12) rfl ?_); refine lit_event (N := 12) (cs := #[.int .i64 a0_0, .slice A0_1 l0_1.length c0_1, .int .i64 a1_0, .slice A1_1 l1_1.length c1_1]) (t := 24) 2 rfl rfl (by first | (go_simp; done) | (go_simp; rfl)) ?_; intro gl_ hgl_ wl_ hbox_ hb; have k0_ := Aside0.mk (blk_below BK140.out hb); have k1_ := Aside0.mk (blk_below BK141.out hb); have k2_ := Aside0.mk (blk_below BK142.out hb); have kb_ := Aside0.mk (below_step HB.out hb); clear HB BK140 BK141 BK142; have BK140 := k0_; have BK141 := k1_; have BK142 := k2_; have HB := kb_; have HL_ := Aside0.mk (C_two31 (x := ⟨a0_0, l0_1⟩) (y := ⟨a1_0, l1_1⟩) hbox_ HC0_1.out HC1_1.out (Kd.C_below HR0_1.out HB.out) (Kd.C_below HR1_1.out HB.out)); clear hbox_ hb hgl_ kb_ k0_ k1_ k2_) | ((with_reducible refine gate_callee (f := 42) rfl ?_); refine goesL_ (some 13) rfl rfl Tryd.func42 (by kernel_rfl) rfl #[.slice (some ⟨gl_, 0, none⟩) 2 2] rfl (by (try simp only [List.map_toArray, List.map_cons, List.map_nil]); first | done | rfl | (simp only [List.length_drop, List.length_take]; rfl)) ?_; (refine (words_fits.calls k (some ⟨gl_, 0, none⟩) 2 [⟨a0_0, l0_1⟩, ⟨a1_0, l1_1⟩] t143 _ ?side1 ?side2 A3.out).mono ?_); (case side1 => exact HL_.out); (case side2 => exact Nat.le_refl _); rintro e w14 ⟨rfl, hb⟩; refine ⟨_, rfl, ?_⟩; have n0_ := Aside0.mk (blk_below BK140.out hb); have n1_ := Aside0.mk (blk_below BK141.out hb); have n2_ := Aside0.mk (blk_below BK142.out hb); have n3_ := Aside0.mk (below_step (by repeat (first | (with_reducible first | exact HB.out | apply below_alloc | apply pw_below_drewN | apply below_drew1 | refine below_set ?_ GE140.out | refine below_set ?_ GE141.out | refine below_set ?_ GE142.out) | exact HB.out)) hb); clear BK140; clear BK141; clear BK142; clear HB; have BK140 := n0_; have BK141 := n1_; have BK142 := n2_; have HB := n3_; clear n0_ n1_ n2_ n3_; (try clear hb); (try clear hb2); (try clear hk); (try clear hi); have hcz15_0 : w14.cell? ⟨gb140, 0, none⟩ = some (.int .i64 a0_0) := (blk_cell BK140.out 0).trans rfl; have hcz15_1 : w14.cell? ⟨gb140, 1, none⟩ = some (.slice A0_1 l0_1.length c0_1) := (blk_cell BK140.out 1).trans rfl; have hfz15_0 := blk_frozen BK140.out 0; have hfz15_1 := blk_frozen BK140.out 1) | ((with_reducible refine gate_callee (f := 33) rfl ?_); refine goesL_ (some 19) rfl rfl Tryd.func33 (by kernel_rfl) rfl #[.agg #[.int .i64 a0_0, .slice A0_1 l0_1.length c0_1]] rfl (by (try simp only [List.map_toArray, List.map_cons, List.map_nil]); first | done | rfl | (simp only [List.length_drop, List.length_take]; rfl)) ?_; (with_reducible refine (words_clone.calls a0_0 _ _ l0_1 t144 t145 _ ?side1 ?side2 A5.out).mono ?_); (case side1 => repeat (first | exact (Kd.C_below HR0_1.out HB.out) | (with_reducible refine Kd.C_alloc ?_ _) | (with_reducible refine Kd.C_drewN ?_ _) | (with_reducible refine Kd.C_drew ?_))); (case side2 => exact HC0_1.out); rintro e w16 ⟨v146, rfl, ho0, hb⟩; refine ⟨_, rfl, ?_⟩; have n0_ := Aside0.mk (Kd.R_lower ho0 (below_size (by repeat (first | (with_reducible first | exact HB.out | apply below_alloc | apply pw_below_drewN | apply below_drew1 | refine below_set ?_ GE140.out | refine below_set ?_ GE141.out | refine below_set ?_ GE142.out) | exact HB.out)))); have n1_ := Aside0.mk (blk_below BK140.out hb); have n2_ := Aside0.mk (blk_below BK141.out hb); have n3_ := Aside0.mk (blk_below BK142.out hb); have n4_ := Aside0.mk (below_step (by repeat (first | (with_reducible first | exact HB.out | apply below_alloc | apply pw_below_drewN | apply below_drew1 | refine below_set ?_ GE140.out | refine below_set ?_ GE141.out | refine below_set ?_ GE142.out) | exact HB.out)) hb); clear BK140; clear BK141; clear BK142; clear HB; have HO147 := n0_; have BK140 := n1_; have BK141 := n2_; have BK142 := n3_; have HB := n4_; clear n0_ n1_ n2_ n3_ n4_; (try clear hb); (try clear hb2); (try clear hk); (try clear hi); (try clear ho0)) | ((with_reducible refine gate_dst (N := 7) rfl ?_); refine box_event ?hg (N := 7) ?hd (cs := #[.int .i64 0, .slice none 0 0]) (t := 24) ?hr ?_; (case hd => rfl); (case hg => rfl); (case hr => first | (go_simp; done) | (go_simp; rfl)); intro gb148 hg w17 hbox hb; have n0_ := Aside0.mk (Kd.R_below HO147.out hb); have n1_ := Aside0.mk (blk_below BK140.out hb); have n2_ := Aside0.mk (blk_below BK141.out hb); have n3_ := Aside0.mk (blk_below BK142.out hb); have n4_ := Aside0.mk (below_step (by repeat (first | (with_reducible first | exact HB.out | apply below_alloc | apply pw_below_drewN | apply below_drew1 | refine below_set ?_ GE140.out | refine below_set ?_ GE141.out | refine below_set ?_ GE142.out) | exact HB.out)) hb); have n5_ := Aside0.mk (hbox); have n6_ := Aside0.mk ((by rw [hg]; exact (below_size (by repeat (first | (with_reducible first | exact HB.out | apply below_alloc | apply pw_below_drewN | apply below_drew1 | refine below_set ?_ GE140.out | refine below_set ?_ GE141.out | refine below_set ?_ GE142.out) | exact HB.out))) : w.heap.size ≤ gb148)); have n7_ := Aside0.mk ((by rw [hg]; exact (below_size (by repeat (first | (with_reducible first | exact HB.out | apply below_alloc | apply pw_below_drewN | apply below_drew1 | refine below_set ?_ GE140.out | refine below_set ?_ GE141.out | refine below_set ?_ GE142.out) | exact HB.out))) : w.heap.size ≤ gb148)); have n8_ := Aside0.mk ((by rw [hg]; exact Nat.ne_of_lt (blk_lt BK140.out) : gb140 ≠ gb148)); have n9_ := Aside0.mk ((by rw [hg]; exact Nat.ne_of_gt (blk_lt BK140.out) : gb148 ≠ gb140)); have n10_ := Aside0.mk ((by rw [hg]; exact Nat.ne_of_lt (blk_lt BK141.out) : gb141 ≠ gb148)); have n11_ := Aside0.mk ((by rw [hg]; exact Nat.ne_of_gt (blk_lt BK141.out) : gb148 ≠ gb141)); have n12_ := Aside0.mk ((by rw [hg]; exact Nat.ne_of_lt (blk_lt BK142.out) : gb142 ≠ gb148)); have n13_ := Aside0.mk ((by rw [hg]; exact Nat.ne_of_gt (blk_lt BK142.out) : gb148 ≠ gb142)); clear HO147; clear BK140; clear BK141; clear BK142; clear HB; have HO147 := n0_; have BK140 := n1_; have BK141 := n2_; have BK142 := n3_; have HB := n4_; have BK148 := n5_; have GW148 := n6_; have GE148 := n7_; have NB140_148 := n8_; have NB148_140 := n9_; have NB141_148 := n10_; have NB148_141 := n11_; have NB142_148 := n12_; have NB148_142 := n13_; clear n0_ n1_ n2_ n3_ n4_ n5_ n6_ n7_ n8_ n9_ n10_ n11_ n12_ n13_; clear hb hbox hg; have hnb18 := NB148_140.out; have hnc18 := NB140_148.out; have hnb19 := NB148_141.out; have hnc19 := NB141_148.out; have hnb20 := NB148_142.out; have hnc20 := NB142_148.out; have hcz21_0 : w17.cell? ⟨gb148, 0, none⟩ = some (.int .i64 0) := (blk_cell BK148.out 0).trans rfl; have hcz21_1 : w17.cell? ⟨gb148, 1, none⟩ = some (.slice none 0 0) := (blk_cell BK148.out 1).trans rfl; have hfz21_0 := blk_frozen BK148.out 0; have hfz21_1 := blk_frozen BK148.out 1; obtain ⟨Ao22, co22, eo22⟩ := Kd.R_slice HO147.out; subst eo22; have hcz23_0 : w17.cell? ⟨gb141, 0, none⟩ = some (.int .i64 a1_0) := (blk_cell BK141.out 0).trans rfl; have hcz23_1 : w17.cell? ⟨gb141, 1, none⟩ = some (.slice A1_1 l1_1.length c1_1) := (blk_cell BK141.out 1).trans rfl; have hfz23_0 := blk_frozen BK141.out 0; have hfz23_1 := blk_frozen BK141.out 1))
    go_loopg [23] k (fun kq v23 w' => ∃ (x23_1 : Int) (x149001_1 : List Int) (u149001 : Value), v23 = .int .i64 x23_1 ∧ Aside0 (words_Xor.l0 kq l1_1 (l1_1.length : Int) x23_1 t144 x149001_1 = some (r1, r2, r3)) ∧ Aside0 (kq ≤ k) ∧ Aside0 (Kd.R (Kd.int .u64) 58 w' w.heap.size (fun _ => True) u149001 x149001_1) ∧ Aside0 (w'.heap[gb140]? = some (.cells #[.int .i64 a0_0, (.slice A0_1 l0_1.length c0_1)] 24 (0, 0))) ∧ Aside0 (w'.heap[gb141]? = some (.cells #[.int .i64 a1_0, (.slice A1_1 l1_1.length c1_1)] 24 (0, 0))) ∧ Aside0 (w'.heap[gb142]? = some (.cells #[.int .i64 0, (.slice none 0 0)] 24 (0, 0))) ∧ Aside0 (w'.heap[gb148]? = some (.cells #[.int .i64 t144, u149001] 24 (0, 0))) ∧ Aside0 (Below w.heap.size w w'))
    case atStart => exact ⟨(0), (t145), (.slice Ao22 t145.length co22), (by first | rfl | (simp; done) | (simp [*]; done) | (simp [wrap64]; done)), H', ⟨Nat.le_refl _⟩, ⟨by (with_reducible repeat (first | apply Kd.R_alloc | apply Kd.R_drewN | apply Kd.R_drew)); exact Kd.R_mono (Kd.R_far (p := ⟨gb148, 1, none⟩) (Kd.R_far (p := ⟨gb148, 0, none⟩) (Kd.R_types HO147.out BK148.out (by decide)) (fun _ hk => hk.2) (.int .i64 t144)) (fun _ hk => hk.2) (.slice Ao22 t145.length co22)) (fun _ hk => trivial)⟩, ⟨by (with_reducible repeat (first | refine blk_drewN ?_ _ | refine blk_drew ?_ | refine blk_alloc ?_ _)); refine blk_far ?_ NB140_148.out _; (with_reducible repeat (first | refine blk_drewN ?_ _ | refine blk_drew ?_ | refine blk_alloc ?_ _)); refine blk_far ?_ NB140_148.out _; (with_reducible repeat (first | refine blk_drewN ?_ _ | refine blk_drew ?_ | refine blk_alloc ?_ _)); exact BK140.out⟩, ⟨by (with_reducible repeat (first | refine blk_drewN ?_ _ | refine blk_drew ?_ | refine blk_alloc ?_ _)); refine blk_far ?_ NB141_148.out _; (with_reducible repeat (first | refine blk_drewN ?_ _ | refine blk_drew ?_ | refine blk_alloc ?_ _)); refine blk_far ?_ NB141_148.out _; (with_reducible repeat (first | refine blk_drewN ?_ _ | refine blk_drew ?_ | refine blk_alloc ?_ _)); exact BK141.out⟩, ⟨by (with_reducible repeat (first | refine blk_drewN ?_ _ | refine blk_drew ?_ | refine blk_alloc ?_ _)); refine blk_far ?_ NB142_148.out _; (with_reducible repeat (first | refine blk_drewN ?_ _ | refine blk_drew ?_ | refine blk_alloc ?_ _)); refine blk_far ?_ NB142_148.out _; (with_reducible repeat (first | refine blk_drewN ?_ _ | refine blk_drew ?_ | refine blk_alloc ?_ _)); exact BK142.out⟩, ⟨by (with_reducible repeat (first | refine blk_drewN ?_ _ | refine blk_drew ?_ | refine blk_alloc ?_ _)); refine blk_put (cs := #[.int .i64 t144, .slice none 0 0]) ?_ 1 _ rfl; (with_reducible repeat (first | refine blk_drewN ?_ _ | refine blk_drew ?_ | refine blk_alloc ?_ _)); refine blk_put (cs := #[.int .i64 0, .slice none 0 0]) ?_ 0 _ rfl; (with_reducible repeat (first | refine blk_drewN ?_ _ | refine blk_drew ?_ | refine blk_alloc ?_ _)); exact BK148.out⟩, ⟨by repeat (first | (with_reducible first | exact HB.out | apply below_alloc | apply pw_below_drewN | apply below_drew1 | refine below_set ?_ GE140.out | refine below_set ?_ GE141.out | refine below_set ?_ GE142.out | refine below_set ?_ GE148.out) | exact HB.out)⟩⟩
    case round =>
      clear H'
      try clear c1
      try clear c2
      try clear p2
      try clear c4
      try clear c4b0
      try clear c4b1
      try clear c5
      try clear c9
      try clear c10
      try clear c12
      try clear c18
      try clear c19
      try clear c20
      try clear hcz11_0
      try clear hcz11_1
      try clear hcz13_0
      try clear hcz13_1
      try clear hcz15_0
      try clear hcz15_1
      try clear hcz21_0
      try clear hcz21_1
      try clear hcz23_0
      try clear hcz23_1
      try clear hfz11_0
      try clear hfz11_1
      try clear hfz13_0
      try clear hfz13_1
      try clear hfz15_0
      try clear hfz15_1
      try clear hfz21_0
      try clear hfz21_1
      try clear hfz23_0
      try clear hfz23_1
      obtain ⟨x23_1, x149001_1, u149001, rfl, HA, HK1, HO_149001, BK140, BK141, BK142, BK148, HB⟩ := hrel
      cases gk with
      | zero => exact absurd HA.out (by simp [words_Xor.l0])
      | succ k1 =>
        have H := HA.out
        clear HA
        simp only [words_Xor.l0] at H
        by_cases c24 : x23_1 < (l1_1.length : Int)
        · rw [if_pos c24] at H
          have c24b0 : decide (x23_1 < (l1_1.length : Int)) = true := decide_eq_true c24
          clear c24
          by_cases c25 : 0 ≤ x23_1
          · rw [if_pos c25] at H
            have c25b0 : decide (0 ≤ x23_1) = true := decide_eq_true c25
            clear c25
            by_cases c26 : x23_1 < (l1_1.length : Int)
            · rw [if_pos c26] at H
              have c26b0 : decide (x23_1 < (l1_1.length : Int)) = true := decide_eq_true c26
              clear c26
              by_cases c27 : x23_1 < (x149001_1.length : Int)
              · rw [if_pos c27] at H
                have c27b0 : decide (x23_1 < (x149001_1.length : Int)) = true := decide_eq_true c27
                clear c27
                obtain ⟨y151, hy151⟩ : ∃ y_ : List Int, y_ = (x149001_1.set (x23_1 : Int).toNat (Go.bits .xor .u64 (rd x149001_1 x23_1) (rd l1_1 x23_1))) := ⟨_, rfl⟩
                replace H : (words_Xor.l0 k1 l1_1 (l1_1.length : Int) (wrap64 (x23_1 + 1)) t144 y151) = some (r1, r2, r3) := by first | (rw [hy151]; with_reducible exact H) | (have H2_ := (Option.bind_some _ _).symm.trans H; rw [hy151]; with_reducible exact H2_) | (have H2_ := (Option.bind_some _ _).symm.trans H; with_reducible exact H2_) | with_reducible exact H | (rw [hy151]; exact H) | exact H
                have Ny151 := Aside0.mk hy151
                clear hy151
                have H' := Aside0.mk H
                clear H
                have p149 : 0 ≤ (x23_1 : Int) := of_decide_eq_true (by first | (with_reducible assumption) | assumption)
                have q149 : x23_1 < (l1_1.length : Int) := of_decide_eq_true (by first | (with_reducible assumption) | assumption)
                obtain ⟨ad149, e149, hx149_0⟩ := Kd.at_int HR1_1.out x23_1 p149 q149
                cases e149
                replace hx149_0 := (HB.out.cell (World.block_lt_of_cell? w _ hx149_0)).trans hx149_0
                replace p149 := eq_true p149
                replace q149 := eq_true q149
                have hnb29 := NB148_140.out
                have hnc29 := NB140_148.out
                have hnb30 := NB148_141.out
                have hnc30 := NB141_148.out
                have hnb31 := NB148_142.out
                have hnc31 := NB142_148.out
                have hcz32_0 : wr.cell? ⟨gb148, 0, none⟩ = some (.int .i64 t144) := (blk_cell BK148.out 0).trans rfl
                have hcz32_1 : wr.cell? ⟨gb148, 1, none⟩ = some (u149001) := (blk_cell BK148.out 1).trans rfl
                have hfz32_0 := blk_frozen BK148.out 0
                have hfz32_1 := blk_frozen BK148.out 1
                obtain ⟨Ao33, co33, eo33⟩ := Kd.R_slice HO_149001.out
                subst eo33
                have p150 : 0 ≤ (x23_1 : Int) := of_decide_eq_true (by first | (with_reducible assumption) | assumption)
                have q150 : x23_1 < (x149001_1.length : Int) := of_decide_eq_true (by first | (with_reducible assumption) | assumption)
                obtain ⟨ad150, e150, hx150_0⟩ := Kd.at_int (Kd.R_reads' HO_149001.out).2.2 x23_1 p150 q150
                cases e150
                replace p150 := eq_true p150
                replace q150 := eq_true q150
                have p28 : 0 ≤ (x23_1 : Int) := of_decide_eq_true (by first | (with_reducible assumption) | assumption)
                have q28 : (x23_1 : Int) < ((x149001_1.length : Int) : Int) := of_decide_eq_true (by first | (with_reducible assumption) | assumption)
                obtain ⟨go28, co28, eo28, gb28, gl28, cl28, HG28⟩ := Kd.R_form HO_149001.out (by omega)
                (first | cases eo28 | (injection eo28 with ea_ en_ ec_; (first | subst ea_ | (injection ea_ with ea_; subst ea_)); subst ec_; clear en_))
                have GB28 := Aside0.mk gb28
                have GG28 := Aside0.mk HG28
                clear gb28 gl28 HG28
                (first | simp only [add_plain] at hx150_0 | skip)
                obtain ⟨hx28_0, hf28_0⟩ := Kd.R_celln 0 HO_149001.out (x23_1 : Int) p28 q28
                replace p28 := eq_true p28
                replace q28 := eq_true q28
                have HP34 := Kd.R_putg HO_149001.out (x23_1 : Int) (Go.bits .xor .u64 (rd x149001_1 x23_1) (rd l1_1 x23_1))
                go_wp2_with (first | ((with_reducible refine gate_store (t := 58) (p := 35) rfl ?_); refine store_event (t := 58) (p := 35) (v := ?vo_w35) (w1 := (wr.setCell ⟨go28, (x23_1 : Int).toNat, none⟩ (.int .u64 (Go.bits .xor .u64 (rd x149001_1 x23_1) (rd l1_1 x23_1))))) ?hg ?ho ?hn ?hr ?_; (case ho => rfl); (case hg => rfl); (case hn => rfl); (case hr => first | (go_simp; done) | (go_simp; rfl)); intro w35 hw; have hg : wr.grownBy w35 (some go28) := (by rw [hw]; exact HP34.2); have hp_ : Kd.R (Kd.int .u64) 58 w35 w.heap.size (fun _ => True) (.slice (some ⟨go28, 0, none⟩) x149001_1.length co33) y151 := (by rw [hw, Ny151.out]; exact HP34.1); clear HP34; have n0_ := Aside0.mk (hp_); have n1_ := Aside0.mk (blk_grown (g := gb140) (o := .cells #[.int .i64 a0_0, .slice A0_1 l0_1.length c0_1] 24 (0, 0)) (by (with_reducible repeat (first | refine blk_drewN ?_ _ | refine blk_drew ?_ | refine blk_alloc ?_ _)); exact BK140.out) hg (Kd.R_ne HO_149001.out BK140.out (by decide))); have n2_ := Aside0.mk (blk_grown (g := gb141) (o := .cells #[.int .i64 a1_0, .slice (some ad149) l1_1.length c1_1] 24 (0, 0)) (by (with_reducible repeat (first | refine blk_drewN ?_ _ | refine blk_drew ?_ | refine blk_alloc ?_ _)); exact BK141.out) hg (Kd.R_ne HO_149001.out BK141.out (by decide))); have n3_ := Aside0.mk (blk_grown (g := gb142) (o := .cells #[.int .i64 0, .slice none 0 0] 24 (0, 0)) (by (with_reducible repeat (first | refine blk_drewN ?_ _ | refine blk_drew ?_ | refine blk_alloc ?_ _)); exact BK142.out) hg (Kd.R_ne HO_149001.out BK142.out (by decide))); have n4_ := Aside0.mk (blk_grown (g := gb148) (o := .cells #[.int .i64 t144, .slice (some ⟨go28, 0, none⟩) x149001_1.length co33] 24 (0, 0)) (by (with_reducible repeat (first | refine blk_drewN ?_ _ | refine blk_drew ?_ | refine blk_alloc ?_ _)); exact BK148.out) hg (Kd.R_ne HO_149001.out BK148.out (by decide))); have n5_ := Aside0.mk ((by rw [hw]; exact below_set (HB.out) GB28.out : Below w.heap.size w w35)); clear HO_149001; clear BK140; clear BK141; clear BK142; clear BK148; clear HB; have HO_149001 := n0_; have BK140 := n1_; have BK141 := n2_; have BK142 := n3_; have BK148 := n4_; have HB := n5_; clear n0_ n1_ n2_ n3_ n4_ n5_; clear hg hw hp_))
                go_roundg k1
                case measure => have := HK1.out; omega
                case rel => exact ⟨(wrap64 (x23_1 + 1)), (y151), (.slice (some ⟨go28, 0, none⟩) x149001_1.length co33), (by first | rfl | (simp; done) | (simp [*]; done) | (simp [wrap64]; done)), H', ⟨by have := HK1.out; omega⟩, ⟨by (with_reducible repeat (first | apply Kd.R_alloc | apply Kd.R_drewN | apply Kd.R_drew)); exact HO_149001.out⟩, ⟨by (with_reducible repeat (first | refine blk_drewN ?_ _ | refine blk_drew ?_ | refine blk_alloc ?_ _)); exact BK140.out⟩, ⟨by (with_reducible repeat (first | refine blk_drewN ?_ _ | refine blk_drew ?_ | refine blk_alloc ?_ _)); exact BK141.out⟩, ⟨by (with_reducible repeat (first | refine blk_drewN ?_ _ | refine blk_drew ?_ | refine blk_alloc ?_ _)); exact BK142.out⟩, ⟨by (with_reducible repeat (first | refine blk_drewN ?_ _ | refine blk_drew ?_ | refine blk_alloc ?_ _)); exact BK148.out⟩, ⟨by repeat (first | (with_reducible first | exact HB.out | apply below_alloc | apply pw_below_drewN | apply below_drew1 | refine below_set ?_ GE140.out | refine below_set ?_ GE141.out | refine below_set ?_ GE142.out | refine below_set ?_ GE148.out) | exact HB.out)⟩⟩
              · rw [if_neg c27] at H
                exact absurd H (by simp)
            · rw [if_neg c26] at H
              exact absurd H (by simp)
          · rw [if_neg c25] at H
            exact absurd H (by simp)
        · rw [if_neg c24] at H
          have c24b0 : decide (x23_1 < (l1_1.length : Int)) = false := decide_eq_false c24
          clear c24
          simp only [Option.some.injEq, Prod.mk.injEq] at H
          obtain ⟨rfl, rfl, rfl⟩ := H
          have hnb36 := NB148_140.out
          have hnc36 := NB140_148.out
          have hnb37 := NB148_141.out
          have hnc37 := NB141_148.out
          have hnb38 := NB148_142.out
          have hnc38 := NB142_148.out
          have hcz39_0 : wr.cell? ⟨gb148, 0, none⟩ = some (.int .i64 t144) := (blk_cell BK148.out 0).trans rfl
          have hcz39_1 : wr.cell? ⟨gb148, 1, none⟩ = some (u149001) := (blk_cell BK148.out 1).trans rfl
          have hfz39_0 := blk_frozen BK148.out 0
          have hfz39_1 := blk_frozen BK148.out 1
          have hnb40 := NB142_140.out
          have hnc40 := NB140_142.out
          have hnb41 := NB142_141.out
          have hnc41 := NB141_142.out
          have hcz42_0 : wr.cell? ⟨gb142, 0, none⟩ = some (.int .i64 0) := (blk_cell BK142.out 0).trans rfl
          have hcz42_1 : wr.cell? ⟨gb142, 1, none⟩ = some (.slice none 0 0) := (blk_cell BK142.out 1).trans rfl
          have hfz42_0 := blk_frozen BK142.out 0
          have hfz42_1 := blk_frozen BK142.out 1
          obtain ⟨Ao43, co43, eo43⟩ := Kd.R_slice HO_149001.out
          subst eo43
          go_wp2
          refine bodyPost_ret (results_ct rfl _ _ gb142 24 #[.int .i64 t144, .slice Ao43 x149001_1.length co43] (0, 0) _ rfl (by (with_reducible repeat (first | refine blk_drewN ?_ _ | refine blk_drew ?_ | refine blk_alloc ?_ _)); refine blk_put (cs := #[.int .i64 t144, .slice none 0 0]) ?_ 1 _ rfl; (with_reducible repeat (first | refine blk_drewN ?_ _ | refine blk_drew ?_ | refine blk_alloc ?_ _)); refine blk_put (cs := #[.int .i64 0, .slice none 0 0]) ?_ 0 _ rfl; (with_reducible repeat (first | refine blk_drewN ?_ _ | refine blk_drew ?_ | refine blk_alloc ?_ _)); exact BK142.out) Tryd.underlying24 rfl (by kernel_rfl)) rfl ?_
          exact ⟨_, by first | rfl | (simp [errW_none, errW_some] <;> rfl) | (simp [*, errW_none, errW_some] <;> rfl), by (with_reducible repeat (first | apply Kd.R_alloc | apply Kd.R_drewN | apply Kd.R_drew)); exact Kd.R_mono (Kd.R_far (p := ⟨gb142, 1, none⟩) (Kd.R_far (p := ⟨gb142, 0, none⟩) (Kd.R_types HO_149001.out BK142.out (by decide)) (fun _ hk => hk.2) (.int .i64 t144)) (fun _ hk => hk.2) (.slice Ao43 x149001_1.length co43)) (fun _ hk => trivial), by repeat (first | (with_reducible first | exact HB.out | apply below_alloc | apply pw_below_drewN | apply below_drew1 | refine below_set ?_ GE140.out | refine below_set ?_ GE141.out | refine below_set ?_ GE142.out | refine below_set ?_ GE148.out) | exact HB.out)⟩
  · rw [if_neg c4] at H
    have c4b0 : (t143 == 0) = false := beq_eq_false_iff_ne.mpr c4
    have c4b1 : (t143 != 0) = true := bne_iff_ne.mpr c4
    simp only [Option.some.injEq, Prod.mk.injEq] at H
    obtain ⟨rfl, rfl, rfl⟩ := H
    go_enter Tryd.func24, Tryd.ntmps24
    go_wp2_with (first | ((with_reducible refine gate_dst (N := 2) rfl ?_); refine box_event ?hg (N := 2) ?hd (cs := #[.int .i64 a0_0, .slice A0_1 l0_1.length c0_1]) (t := 24) ?hr ?_; (case hd => rfl); (case hg => rfl); (case hr => first | (go_simp; done) | (go_simp; rfl)); intro gb140 hg w44 hbox hb; have n0_ := Aside0.mk (below_step (by repeat (first | (with_reducible first | exact HB.out | apply below_alloc | apply pw_below_drewN | apply below_drew1) | exact HB.out)) hb); have n1_ := Aside0.mk (hbox); have n2_ := Aside0.mk ((by rw [hg]; exact (below_size (by repeat (first | (with_reducible first | exact HB.out | apply below_alloc | apply pw_below_drewN | apply below_drew1) | exact HB.out))) : w.heap.size ≤ gb140)); have n3_ := Aside0.mk ((by rw [hg]; exact (below_size (by repeat (first | (with_reducible first | exact HB.out | apply below_alloc | apply pw_below_drewN | apply below_drew1) | exact HB.out))) : w.heap.size ≤ gb140)); clear HB; have HB := n0_; have BK140 := n1_; have GW140 := n2_; have GE140 := n3_; clear n0_ n1_ n2_ n3_; clear hb hbox hg) | ((with_reducible refine gate_dst (N := 3) rfl ?_); refine box_event ?hg (N := 3) ?hd (cs := #[.int .i64 a1_0, .slice A1_1 l1_1.length c1_1]) (t := 24) ?hr ?_; (case hd => rfl); (case hg => rfl); (case hr => first | (go_simp; done) | (go_simp; rfl)); intro gb141 hg w45 hbox hb; have n0_ := Aside0.mk (blk_below BK140.out hb); have n1_ := Aside0.mk (below_step (by repeat (first | (with_reducible first | exact HB.out | apply below_alloc | apply pw_below_drewN | apply below_drew1 | refine below_set ?_ GE140.out) | exact HB.out)) hb); have n2_ := Aside0.mk (hbox); have n3_ := Aside0.mk ((by rw [hg]; exact (below_size (by repeat (first | (with_reducible first | exact HB.out | apply below_alloc | apply pw_below_drewN | apply below_drew1 | refine below_set ?_ GE140.out) | exact HB.out))) : w.heap.size ≤ gb141)); have n4_ := Aside0.mk ((by rw [hg]; exact (below_size (by repeat (first | (with_reducible first | exact HB.out | apply below_alloc | apply pw_below_drewN | apply below_drew1 | refine below_set ?_ GE140.out) | exact HB.out))) : w.heap.size ≤ gb141)); have n5_ := Aside0.mk ((by rw [hg]; exact Nat.ne_of_lt (blk_lt BK140.out) : gb140 ≠ gb141)); have n6_ := Aside0.mk ((by rw [hg]; exact Nat.ne_of_gt (blk_lt BK140.out) : gb141 ≠ gb140)); clear BK140; clear HB; have BK140 := n0_; have HB := n1_; have BK141 := n2_; have GW141 := n3_; have GE141 := n4_; have NB140_141 := n5_; have NB141_140 := n6_; clear n0_ n1_ n2_ n3_ n4_ n5_ n6_; clear hb hbox hg) | ((with_reducible refine gate_dst (N := 4) rfl ?_); refine box_event ?hg (N := 4) ?hd (cs := #[.int .i64 0, .slice none 0 0]) (t := 24) ?hr ?_; (case hd => rfl); (case hg => rfl); (case hr => first | (go_simp; done) | (go_simp; rfl)); intro gb142 hg w46 hbox hb; have n0_ := Aside0.mk (blk_below BK140.out hb); have n1_ := Aside0.mk (blk_below BK141.out hb); have n2_ := Aside0.mk (below_step (by repeat (first | (with_reducible first | exact HB.out | apply below_alloc | apply pw_below_drewN | apply below_drew1 | refine below_set ?_ GE140.out | refine below_set ?_ GE141.out) | exact HB.out)) hb); have n3_ := Aside0.mk (hbox); have n4_ := Aside0.mk ((by rw [hg]; exact (below_size (by repeat (first | (with_reducible first | exact HB.out | apply below_alloc | apply pw_below_drewN | apply below_drew1 | refine below_set ?_ GE140.out | refine below_set ?_ GE141.out) | exact HB.out))) : w.heap.size ≤ gb142)); have n5_ := Aside0.mk ((by rw [hg]; exact (below_size (by repeat (first | (with_reducible first | exact HB.out | apply below_alloc | apply pw_below_drewN | apply below_drew1 | refine below_set ?_ GE140.out | refine below_set ?_ GE141.out) | exact HB.out))) : w.heap.size ≤ gb142)); have n6_ := Aside0.mk ((by rw [hg]; exact Nat.ne_of_lt (blk_lt BK140.out) : gb140 ≠ gb142)); have n7_ := Aside0.mk ((by rw [hg]; exact Nat.ne_of_gt (blk_lt BK140.out) : gb142 ≠ gb140)); have n8_ := Aside0.mk ((by rw [hg]; exact Nat.ne_of_lt (blk_lt BK141.out) : gb141 ≠ gb142)); have n9_ := Aside0.mk ((by rw [hg]; exact Nat.ne_of_gt (blk_lt BK141.out) : gb142 ≠ gb141)); clear BK140; clear BK141; clear HB; have BK140 := n0_; have BK141 := n1_; have HB := n2_; have BK142 := n3_; have GW142 := n4_; have GE142 := n5_; have NB140_142 := n6_; have NB142_140 := n7_; have NB141_142 := n8_; have NB142_141 := n9_; clear n0_ n1_ n2_ n3_ n4_ n5_ n6_ n7_ n8_ n9_; clear hb hbox hg; have hnb47 := NB140_141.out; have hnc47 := NB141_140.out; have hnb48 := NB140_142.out; have hnc48 := NB142_140.out; have hcz49_0 : w46.cell? ⟨gb140, 0, none⟩ = some (.int .i64 a0_0) := (blk_cell BK140.out 0).trans rfl; have hcz49_1 : w46.cell? ⟨gb140, 1, none⟩ = some (.slice A0_1 l0_1.length c0_1) := (blk_cell BK140.out 1).trans rfl; have hfz49_0 := blk_frozen BK140.out 0; have hfz49_1 := blk_frozen BK140.out 1; have hnb50 := NB141_142.out; have hnc50 := NB142_141.out; have hcz51_0 : w46.cell? ⟨gb141, 0, none⟩ = some (.int .i64 a1_0) := (blk_cell BK141.out 0).trans rfl; have hcz51_1 : w46.cell? ⟨gb141, 1, none⟩ = some (.slice A1_1 l1_1.length c1_1) := (blk_cell BK141.out 1).trans rfl; have hfz51_0 := blk_frozen BK141.out 0; have hfz51_1 := blk_frozen BK141.out 1) | ((with_reducible refine gate_dst (N := 12) rfl ?_); refine lit_event (N := 12) (cs := #[.int .i64 a0_0, .slice A0_1 l0_1.length c0_1, .int .i64 a1_0, .slice A1_1 l1_1.length c1_1]) (t := 24) 2 rfl rfl (by first | (go_simp; done) | (go_simp; rfl)) ?_; intro gl_ hgl_ wl_ hbox_ hb; have k0_ := Aside0.mk (blk_below BK140.out hb); have k1_ := Aside0.mk (blk_below BK141.out hb); have k2_ := Aside0.mk (blk_below BK142.out hb); have kb_ := Aside0.mk (below_step HB.out hb); clear HB BK140 BK141 BK142; have BK140 := k0_; have BK141 := k1_; have BK142 := k2_; have HB := kb_; have HL_ := Aside0.mk (C_two31 (x := ⟨a0_0, l0_1⟩) (y := ⟨a1_0, l1_1⟩) hbox_ HC0_1.out HC1_1.out (Kd.C_below HR0_1.out HB.out) (Kd.C_below HR1_1.out HB.out)); clear hbox_ hb hgl_ kb_ k0_ k1_ k2_) | ((with_reducible refine gate_callee (f := 42) rfl ?_); refine goesL_ (some 13) rfl rfl Tryd.func42 (by kernel_rfl) rfl #[.slice (some ⟨gl_, 0, none⟩) 2 2] rfl (by (try simp only [List.map_toArray, List.map_cons, List.map_nil]); first | done | rfl | (simp only [List.length_drop, List.length_take]; rfl)) ?_; (refine (words_fits.calls k (some ⟨gl_, 0, none⟩) 2 [⟨a0_0, l0_1⟩, ⟨a1_0, l1_1⟩] t143 _ ?side1 ?side2 A3.out).mono ?_); (case side1 => exact HL_.out); (case side2 => exact Nat.le_refl _); rintro e w52 ⟨rfl, hb⟩; refine ⟨_, rfl, ?_⟩; have n0_ := Aside0.mk (blk_below BK140.out hb); have n1_ := Aside0.mk (blk_below BK141.out hb); have n2_ := Aside0.mk (blk_below BK142.out hb); have n3_ := Aside0.mk (below_step (by repeat (first | (with_reducible first | exact HB.out | apply below_alloc | apply pw_below_drewN | apply below_drew1 | refine below_set ?_ GE140.out | refine below_set ?_ GE141.out | refine below_set ?_ GE142.out) | exact HB.out)) hb); clear BK140; clear BK141; clear BK142; clear HB; have BK140 := n0_; have BK141 := n1_; have BK142 := n2_; have HB := n3_; clear n0_ n1_ n2_ n3_; (try clear hb); (try clear hb2); (try clear hk); (try clear hi); have hcz53_0 : w52.cell? ⟨gb142, 0, none⟩ = some (.int .i64 0) := (blk_cell BK142.out 0).trans rfl; have hcz53_1 : w52.cell? ⟨gb142, 1, none⟩ = some (.slice none 0 0) := (blk_cell BK142.out 1).trans rfl; have hfz53_0 := blk_frozen BK142.out 0; have hfz53_1 := blk_frozen BK142.out 1))
    refine bodyPost_ret (results_ct rfl _ _ gb142 24 #[.int .i64 0, .slice none 0 0] (0, 0) _ rfl (by (with_reducible repeat (first | refine blk_drewN ?_ _ | refine blk_drew ?_ | refine blk_alloc ?_ _)); refine blk_put (cs := #[.int .i64 0, .slice none 0 0]) ?_ 1 _ rfl; (with_reducible repeat (first | refine blk_drewN ?_ _ | refine blk_drew ?_ | refine blk_alloc ?_ _)); refine blk_put (cs := #[.int .i64 0, .slice none 0 0]) ?_ 0 _ rfl; (with_reducible repeat (first | refine blk_drewN ?_ _ | refine blk_drew ?_ | refine blk_alloc ?_ _)); exact BK142.out) Tryd.underlying24 rfl (by kernel_rfl)) rfl ?_
    exact ⟨_, by first | rfl | (simp [errW_none, errW_some] <;> rfl) | (simp [*, errW_none, errW_some] <;> rfl), by first | exact Kd.R_nil _ _ _ _ _ | exact Kd.N_nil _ _ _ _ _ | exact Kd.V_nil _ _ _ _ _ | exact Kd.Q_nil _ _ _ _ _ | exact Kd.S_nil _ _ _ _ _, by repeat (first | (with_reducible first | exact HB.out | apply below_alloc | apply pw_below_drewN | apply below_drew1 | refine below_set ?_ GE140.out | refine below_set ?_ GE141.out | refine below_set ?_ GE142.out) | exact HB.out)⟩
end Go.Proofs.YtlghmadoogblcaaDoor.PW
end
section
namespace Go.Proofs.YtlghmadoogblcaaDoor.Adds
open Go Go.RowKit Go.Shelf Go.Proofs.YtlghmadoogblcaaDoorW.PrintWords Go.Proofs.YtlghmadoogblcaaDoorW.PrintLast Go.Proofs.YtlghmadoogblcaaDoorW.PrintMore Go.Proofs.YtlghmadoogblcaaDoor.PW Go.Proofs.YtlghmadoogblcaaDoor.Tz Go.Proofs.YtlghmadoogblcaaDoor.Bits1 Go.Proofs.YtlghmadoogblcaaDoor.Bx Go.Proofs.YtlghmadoogblcaaDoor.BitsAll Go.Proofs.YtlghmadoogblcaaDoor.Turned Go.Proofs.YtlghmadoogblcaaDoor.PopPlain
attribute [local go_sem] Oper.semAt_some
set_option linter.unusedVariables false
set_option linter.unusedSimpArgs false
structure St (w W : World) (T : List (Nat × Array Value)) : Prop where
  be : Below w.heap.size w W
  bx : ∀ p ∈ T, Bx W p.1 p.2
  ge : ∀ p ∈ T, w.heap.size ≤ p.1
theorem St.start (w : World) : St w w [] := ⟨Below.refl _ _, fun p hp => by simp at hp, fun p hp => by simp at hp⟩
theorem St.on {w W W' : World} {T : List (Nat × Array Value)} (h : St w W T) (hb : Below W.heap.size W W') : St w W' T := ⟨chain_ h.be hb, fun p hp => (h.bx p hp).on hb, h.ge⟩
theorem St.push {w W : World} {T : List (Nat × Array Value)} (h : St w W T) (vs : Array Value) (t : TypeId) : St w (W.alloc (.cells vs t)) ((W.heap.size, vs) :: T) :=
  ⟨below_alloc h.be _, fun p hp => by
    rcases List.mem_cons.1 hp with rfl | hp
    · exact Bx.new W vs t
    · exact (h.bx p hp).alloc _, fun p hp => by
    rcases List.mem_cons.1 hp with rfl | hp
    · exact h.be.size
    · exact h.ge p hp⟩
theorem St.lt {w W : World} {T : List (Nat × Array Value)} (h : St w W T) {p : Nat × Array Value} (hp : p ∈ T) : p.1 < W.heap.size := (h.bx p hp).lt
def vals {Wf : Nat → Nat} {L : Nat} (pre : List (Pl Wf L)) : List Int := pre.map (·.1)
theorem fn_ne (b : Addr) (w : World) : (binOp .eql 35 (.func (.func 34) #[] #[.pointer (some b)]) .nilFunc).run Tryd.prog w = .ok (.bool false) w := by kernel_rfl
theorem al1 {w w1 : World} {o : Obj} (h : Below (w.alloc o).heap.size (w.alloc o) w1) : Below w.heap.size w w1 := chain_ (below_alloc (Below.refl _ w) o) h
theorem al2 {w w1 : World} {o o' : Obj} (h : Below ((w.alloc o).alloc o').heap.size ((w.alloc o).alloc o') w1) : Below w.heap.size w w1 := al1 (al1 h)
set_option maxHeartbeats 8000000 in
set_option maxRecDepth 100000 in
theorem walk (k : Nat) (A0 A1 : Option Addr) (c0 c1 : Nat) (l0 l1 : List Bool) (n nn mm bb oo : Int) (X6 X7 X9 X11 : List Int) (w : World) (hr0 : Kd.C Kd.bool w A0 l0.length l0) (hc0 : l0.length ≤ c0) (hr1 : Kd.C Kd.bool w A1 l1.length l1) (hc1 : l1.length ≤ c1) (hT : Tab w)
    (hal : vivariumlaw02_alive.f k = some true) (hp : vivariumlaw02_pair.f k l0 l1 = some (n, X6, n, X7, true)) (h9 : words_And.f k n X6 n X7 = some (n, X9, 0)) (h11 : words_Xor.f k n X6 n X7 = some (n, X11, 0))
    (o6 : words_Ones.f k n X6 = some (nn, 0)) (o7 : words_Ones.f k n X7 = some (mm, 0)) (o9 : words_Ones.f k n X9 = some (bb, 0)) (o11 : words_Ones.f k n X11 = some (oo, 0)) (hnb : 0 ≤ nn ∧ nn ≤ 65600) (hmb : 0 ≤ mm ∧ mm ≤ 65600) (hbb : 0 ≤ bb ∧ bb ≤ 65600) (hob : 0 ≤ oo ∧ oo ≤ 65600) (hsum : oo + 2 * bb = nn + mm)
    (hV : words_Valid.f n X6 = some true) (hC : words_clone.f n X6 = some (n, X6)) (hn : 0 ≤ n ∧ n ≤ 65538) (hL : X6.length ≤ 1025) (hU : ∀ i, i < X6.length → 0 ≤ X6.getD i 0 ∧ X6.getD i 0 < 18446744073709551616)
    (hP : ∀ x ∈ plc (wf X6) X6.length, 0 ≤ x ∧ x < n ∧ words_Get.f n X6 x = some true) (hR : Rise (-1) (plc (wf X6) X6.length)) (hN : ((plc (wf X6) X6.length).length : Int) = nn) :
    Calls Tryd.prog 6 #[.slice A0 l0.length c0, .slice A1 l1.length c1] w fun e w' => e = .returned (.bool true) ∧ Below w.heap.size w w' := by
  have HR0 := Aside0.mk hr0; have HR1 := Aside0.mk hr1; have HT := Aside0.mk hT; have HA := Aside0.mk hal; have HP := Aside0.mk hp; have H9 := Aside0.mk h9; have H11 := Aside0.mk h11
  have O6 := Aside0.mk o6; have O7 := Aside0.mk o7; have O9 := Aside0.mk o9; have O11 := Aside0.mk o11; have HV := Aside0.mk hV; have HC := Aside0.mk hC; have HU := Aside0.mk hU; have HPL := Aside0.mk hP; have HRI := Aside0.mk hR; have HN := Aside0.mk hN
  clear hr0 hr1 hT hal hp h9 h11 o6 o7 o9 o11 hV hC hU hP hR hN
  have hu := Tryd.underlying24
  have hz := Tryd.zeroValue24
  have hzb := Tryd.zeroValue4
  have hfn := fn_ne
  refine (callsIn_wide (n := 3)).1 ?_
  refine callsIn_of_wp_marks Tryd.func6 rfl trivial ?_ rfl
  simp only [Tryd.ntmps6, List.size_toArray, List.length_cons, List.length_nil, Nat.reduceAdd, Nat.reduceSub, Array.replicate_succ, Array.replicate_zero, List.push_toArray, List.append_toArray, List.nil_append, List.cons_append]
  gi_wp2_with (first
    | (refine ⟨trivial, ?_⟩; gi_at_call 7; refine (callsIn_wide.2 (vivariumlaw02_alive.calls k true _ rfl HA.out)).mono ?_; rintro e w1 ⟨rfl, hb⟩; have S1 := Aside0.mk (((St.start w).push #[.bool false] 4).on hb); clear hb)
    | (refine ⟨trivial, ?_⟩; gi_at_call 18; refine (callsIn_wide.2 (vivariumlaw02_pair.calls k A0 c0 l0 A1 c1 l1 n X6 n X7 true _ ?s1 hc0 ?s2 hc1 HP.out)).mono ?_; (case s1 => exact Kd.C_below HR0.out S1.out.be); (case s2 => exact Kd.C_below HR1.out S1.out.be); rintro e w2 ⟨v6_, v7_, rfl, ho6, ho7, hb⟩; obtain ⟨A6, c6, rfl, l6_, r6_⟩ := Kd.R_reads ho6; obtain ⟨A7, c7, rfl, l7_, r7_⟩ := Kd.R_reads ho7; have S2 := Aside0.mk (S1.out.on hb); have C6 := Aside0.mk r6_; have C7 := Aside0.mk r7_; have L6 := Aside0.mk l6_; have L7 := Aside0.mk l7_; clear hb ho6 ho7 l6_ l7_ r6_ r7_)
    | (refine ⟨trivial, ?_⟩; gi_at_call 23; refine (callsIn_wide.2 (words_And.calls k n A6 c6 X6 n A7 c7 X7 n X9 0 _ (Kd.C_alloc (Kd.C_alloc C6.out _) _) L6.out (Kd.C_alloc (Kd.C_alloc C7.out _) _) L7.out H9.out)).mono ?_; rintro e w3 ⟨v_, rfl, ho, hb⟩; obtain ⟨A9, c9, rfl, l_, r_⟩ := Kd.R_reads ho; have S3_ := ((S2.out.push #[.int .i64 n, .slice A6 X6.length c6] 24).push #[.int .i64 n, .slice A7 X7.length c7] 24).on hb; simp only [World.size_alloc] at S3_; have S3 := Aside0.mk S3_; have hb2 := al2 hb; have D6 := Aside0.mk (Kd.C_below C6.out hb2); have D7 := Aside0.mk (Kd.C_below C7.out hb2); have C9 := Aside0.mk r_; have L9 := Aside0.mk l_; clear hb hb2 ho l_ r_ S3_ S2 C6 C7; have q6_ := S3.out.bx (w2.heap.size, #[.int .i64 n, .slice A6 X6.length c6]) (by simp); have z6_0 := q6_.c 0 _ rfl; have z6_1 := q6_.c 1 _ rfl; have l6_ := q6_.lt; have n6_ := Nat.ne_of_lt l6_; clear q6_; have q7_ := S3.out.bx (w2.heap.size + 1, #[.int .i64 n, .slice A7 X7.length c7]) (by simp); have z7_0 := q7_.c 0 _ rfl; have z7_1 := q7_.c 1 _ rfl; have l7_ := q7_.lt; have n7_ := Nat.ne_of_lt l7_; clear q7_)
    | (refine ⟨trivial, ?_⟩; gi_at_call 24; refine (callsIn_wide.2 (words_Xor.calls k n A6 c6 X6 n A7 c7 X7 n X11 0 _ (Kd.C_alloc D6.out _) L6.out (Kd.C_alloc D7.out _) L7.out H11.out)).mono ?_; rintro e w4 ⟨v_, rfl, ho, hb⟩; clear z6_0 z6_1 l6_ n6_; clear z7_0 z7_1 l7_ n7_; obtain ⟨A11, c11, rfl, l_, r_⟩ := Kd.R_reads ho; have S4 := Aside0.mk ((S3.out.push #[.int .i64 n, .slice A9 X9.length c9] 24).on hb); have hb2 := al1 hb; have E6 := Aside0.mk (Kd.C_below D6.out hb2); have E7 := Aside0.mk (Kd.C_below D7.out hb2); have E9 := Aside0.mk (Kd.C_below C9.out hb2); have C11 := Aside0.mk r_; have L11 := Aside0.mk l_; clear hb hb2 ho l_ r_ S3 D6 D7 C9; have q6_ := S4.out.bx (w2.heap.size, #[.int .i64 n, .slice A6 X6.length c6]) (by simp); have z6_0 := q6_.c 0 _ rfl; have z6_1 := q6_.c 1 _ rfl; have l6_ := q6_.lt; have n6_ := Nat.ne_of_lt l6_; clear q6_)
    | (refine ⟨trivial, ?_⟩; gi_at_call 10; refine (callsIn_wide.2 (words_Ones.calls k n A6 c6 X6 nn 0 _ (Kd.C_alloc E6.out _) L6.out O6.out)).mono ?_; rintro e w5 ⟨rfl, hb⟩; clear z6_0 z6_1 l6_ n6_; have S5 := Aside0.mk ((S4.out.push #[.int .i64 n, .slice A11 X11.length c11] 24).on hb); have hb2 := al1 hb; have F6 := Aside0.mk (Kd.C_below E6.out hb2); have F7 := Aside0.mk (Kd.C_below E7.out hb2); have F9 := Aside0.mk (Kd.C_below E9.out hb2); have F11 := Aside0.mk (Kd.C_below C11.out hb2); clear hb hb2 S4 E6 E7 E9 C11; have q7_ := S5.out.bx (w2.heap.size + 1, #[.int .i64 n, .slice A7 X7.length c7]) (by simp); have z7_0 := q7_.c 0 _ rfl; have z7_1 := q7_.c 1 _ rfl; have l7_ := q7_.lt; have n7_ := Nat.ne_of_lt l7_; clear q7_)
    | (refine ⟨trivial, ?_⟩; gi_at_call 10; refine (callsIn_wide.2 (words_Ones.calls k n A7 c7 X7 mm 0 _ F7.out L7.out O7.out)).mono ?_; rintro e w6 ⟨rfl, hb⟩; clear z7_0 z7_1 l7_ n7_; have S6 := Aside0.mk (S5.out.on hb); have hb2 := hb; have G6 := Aside0.mk (Kd.C_below F6.out hb2); have G7 := Aside0.mk (Kd.C_below F7.out hb2); have G9 := Aside0.mk (Kd.C_below F9.out hb2); have G11 := Aside0.mk (Kd.C_below F11.out hb2); clear hb hb2 S5 F6 F7 F9 F11; have q9_ := S6.out.bx (w3.heap.size, #[.int .i64 n, .slice A9 X9.length c9]) (by simp); have z9_0 := q9_.c 0 _ rfl; have z9_1 := q9_.c 1 _ rfl; have l9_ := q9_.lt; have n9_ := Nat.ne_of_lt l9_; clear q9_)
    | (refine ⟨trivial, ?_⟩; gi_at_call 10; refine (callsIn_wide.2 (words_Ones.calls k n A9 c9 X9 bb 0 _ G9.out L9.out O9.out)).mono ?_; rintro e w7 ⟨rfl, hb⟩; clear z9_0 z9_1 l9_ n9_; have S7 := Aside0.mk (S6.out.on hb); have hb2 := hb; have I6 := Aside0.mk (Kd.C_below G6.out hb2); have I7 := Aside0.mk (Kd.C_below G7.out hb2); have I9 := Aside0.mk (Kd.C_below G9.out hb2); have I11 := Aside0.mk (Kd.C_below G11.out hb2); clear hb hb2 S6 G6 G7 G9 G11; have q11_ := S7.out.bx (w4.heap.size, #[.int .i64 n, .slice A11 X11.length c11]) (by simp); have z11_0 := q11_.c 0 _ rfl; have z11_1 := q11_.c 1 _ rfl; have l11_ := q11_.lt; have n11_ := Nat.ne_of_lt l11_; clear q11_)
    | (refine ⟨trivial, ?_⟩; gi_at_call 10; refine (callsIn_wide.2 (words_Ones.calls k n A11 c11 X11 oo 0 _ I11.out L11.out O11.out)).mono ?_; rintro e w8 ⟨rfl, hb⟩; clear z11_0 z11_1 l11_ n11_; have S8 := Aside0.mk (S7.out.on hb); have hb2 := hb; have J6 := Aside0.mk (Kd.C_below I6.out hb2); have J7 := Aside0.mk (Kd.C_below I7.out hb2); have J9 := Aside0.mk (Kd.C_below I9.out hb2); have J11 := Aside0.mk (Kd.C_below I11.out hb2); clear hb hb2 S7 I6 I7 I9 I11; have q6_ := S8.out.bx (w2.heap.size, #[.int .i64 n, .slice A6 X6.length c6]) (by simp); have z6_0 := q6_.c 0 _ rfl; have z6_1 := q6_.c 1 _ rfl; have l6_ := q6_.lt; have n6_ := Nat.ne_of_lt l6_; clear q6_)
    | (refine ⟨trivial, ?_⟩; gi_at_call 12; refine (callsIn_wide.2 (bits_ok n A6 c6 X6 n X6 _ J6.out L6.out HV.out HC.out)).mono ?_; rintro e w9 ⟨⟨Bs, A3, c3, rfl, hge, hbs, hown⟩, hb⟩; clear z6_0 z6_1 l6_ n6_; have S9 := Aside0.mk (S8.out.on hb); have K6 := Aside0.mk (Kd.C_below J6.out hb); have HBS := Aside0.mk hbs; have HN9 := Aside0.mk hown; have HG := Aside0.mk hge; clear hb hbs hown hge S8 J6 J7 J9 J11))
  have hB9_ := S9.out.be
  have hsz : 0 < w9.heap.size := Nat.lt_of_le_of_lt (Nat.zero_le _) HBS.out.lt
  obtain ⟨gh, hgl, hgh⟩ : ∃ gh, gh < w9.heap.size ∧ (0 < X6.length → A3 = some ⟨gh, 0, none⟩) := by
    by_cases h0 : 0 < X6.length
    · obtain ⟨f, cp, e, hf⟩ := HN9.out.form h0
      injection e with e1
      exact ⟨f, hf.2, fun _ => e1⟩
    · exact ⟨0, hsz, fun h => absurd h h0⟩
  have hcell : ∀ j, j < X6.length → w9.cell? ⟨gh, j, none⟩ = some (.int .u64 (wf X6 j : Int)) := by
    intro j hj
    have e := hgh (by omega)
    subst e
    have h := HN9.out.cells (g := gh) rfl j (.int .u64 (X6.getD j 0)) (nums_at_ X6 j hj)
    rw [show (⟨gh, 0, none⟩ : Addr).add j = ⟨gh, j, none⟩ by cases j <;> simp [Addr.add]] at h
    rw [h]
    unfold wf
    rw [Int.toNat_of_nonneg (HU.out j hj).1]
  have hwf : ∀ i, i < X6.length → wf X6 i < 18446744073709551616 := fun i hi => by
    have := HU.out i hi
    unfold wf
    omega
  have hbw : ∀ W : World, Below w9.heap.size w9 W → Below w.heap.size w W := fun W h => chain_ hB9_ h
  refine wpIn_rangeFunc_ownF (α := Pl (wf X6) X6.length) rfl (by decide) (gf := 34) (lb := #[.pointer (some ⟨Bs, 0, none⟩)]) rfl trivial (enters_of Tryd.func34 (by kernel_rfl) rfl)
    (stops 2 (by decide) Bs gh X6.length c3 A3 (wf X6) hL hwf w9 HBS.out.lt (HBS.out.c 0 _ rfl) (fun h => ⟨hgh h, hgl⟩) hcell (HT.out.on hB9_)) (fun h k => KpB.trans h k) ?kb (below_alloc (below_alloc (Below.refl _ _) _) _) (fun _ => rfl)
    (fun pre W => (Bx W w9.heap.size #[.int .i64 (pre.length : Int)] ∧ Bx W (w9.heap.size + 1) #[.int .i64 ((vals pre).getLast?.getD (-1))] ∧ Rise (-1) (vals pre)) ∧ Below w9.heap.size w9 W)
    (fun c pre _ => c = .ret ∧ ¬ Rise (-1) (vals pre))
    (OwnFrom.and (Own.from (fun s A B row hs hg hr => ⟨Bx.kept hs.1 hg hr, Bx.kept hs.2.1 hg hr, hs.2.2⟩) _) (ownFrom_below (Nat.le_refl _) (by simp; omega)))
    (fun _ _ _ _ _ hs _ _ => hs)
    ⟨⟨(Bx.new w9 #[.int .i64 0] 3).alloc _, Bx.new2 w9 _ #[.int .i64 (-1)] 3, trivial⟩, below_alloc (below_alloc (Below.refl _ _) _) _⟩
    (fun x => { tmps := #[.slice A0 l0.length c0, .slice A1 l1.length c1, undef, undef, .pointer (some ⟨w.heap.size, 0, none⟩), .bool true, .pointer (some ⟨w2.heap.size, 0, none⟩), .pointer (some ⟨w2.heap.size + 1, 0, none⟩), .bool true, .pointer (some ⟨w3.heap.size, 0, none⟩), .int .i64 0, .pointer (some ⟨w4.heap.size, 0, none⟩), .int .i64 0, .int .i64 nn, .int .i64 0, .int .i64 mm, .int .i64 0, .int .i64 bb, .int .i64 0, .int .i64 oo, .int .i64 0, .func (.func 34) #[] #[.pointer (some ⟨Bs, 0, none⟩)], .pointer (some ⟨w9.heap.size, 0, none⟩), .pointer (some ⟨w9.heap.size + 1, 0, none⟩), .int .i64 x.1, .bool true, .tuple #[.agg #[.int .i64 n, .slice A6 X6.length c6], .agg #[.int .i64 n, .slice A7 X7.length c7], .bool true], .slice A0 l0.length c0, .slice A1 l1.length c1, .tuple #[.agg #[.int .i64 n, .slice A6 X6.length c6], .agg #[.int .i64 n, .slice A7 X7.length c7], .bool true], .agg #[.int .i64 n, .slice A6 X6.length c6], .agg #[.int .i64 n, .slice A7 X7.length c7], .bool true, .bool true, .bool false, .bool false, .bool true, .bool false, .bool false, .tuple #[.agg #[.int .i64 n, .slice A9 X9.length c9], .int .i64 0], .agg #[.int .i64 n, .slice A6 X6.length c6], .agg #[.int .i64 n, .slice A7 X7.length c7], .tuple #[.agg #[.int .i64 n, .slice A9 X9.length c9], .int .i64 0], .agg #[.int .i64 n, .slice A9 X9.length c9], .int .i64 0, .tuple #[.agg #[.int .i64 n, .slice A11 X11.length c11], .int .i64 0], .agg #[.int .i64 n, .slice A6 X6.length c6], .agg #[.int .i64 n, .slice A7 X7.length c7], .tuple #[.agg #[.int .i64 n, .slice A11 X11.length c11], .int .i64 0], .agg #[.int .i64 n, .slice A11 X11.length c11], .int .i64 0, .tuple #[.int .i64 nn, .int .i64 0], .agg #[.int .i64 n, .slice A6 X6.length c6], .tuple #[.int .i64 nn, .int .i64 0], .int .i64 nn, .int .i64 0, .tuple #[.int .i64 mm, .int .i64 0], .agg #[.int .i64 n, .slice A7 X7.length c7], .tuple #[.int .i64 mm, .int .i64 0], .int .i64 mm, .int .i64 0, .tuple #[.int .i64 bb, .int .i64 0], .agg #[.int .i64 n, .slice A9 X9.length c9], .tuple #[.int .i64 bb, .int .i64 0], .int .i64 bb, .int .i64 0, .tuple #[.int .i64 oo, .int .i64 0], .agg #[.int .i64 n, .slice A11 X11.length c11], .tuple #[.int .i64 oo, .int .i64 0], .int .i64 oo, .int .i64 0, .int .i64 0, .bool false, .bool false, .int .i64 0, .bool false, .bool false, .bool false, .int .i64 0, .bool false, .bool false, .bool false, .int .i64 0, .bool false, .bool false, .bool false, .int .i64 oo, .int .i64 bb, .int .i64 (2 * bb), .int .i64 (nn + mm), .int .i64 nn, .int .i64 mm, .int .i64 (nn + mm), .bool false, .bool false, .agg #[.int .i64 n, .slice A6 X6.length c6], .func (.func 34) #[] #[.pointer (some ⟨Bs, 0, none⟩)], .func (.func 34) #[] #[.pointer (some ⟨Bs, 0, none⟩)], .bool false, .func (.func 34) #[] #[.pointer (some ⟨Bs, 0, none⟩)], .int .i64 x.1, undef, undef, undef, undef, undef, undef, undef, undef, undef, undef, undef, undef, undef, undef, undef, undef, undef, undef, undef, undef, undef], defers := [] }) ?assign ?body ?done ?stop
  case kb =>
    intro W l o o' hl h1 h2 h3 k hk
    refine World.putObj_heap_other ?_
    have := HBS.out.lt
    simp at hk hl
    omega
  case assign =>
    intro l x W K hK
    gi_wp2
    exact hK
  case stop =>
    rintro D c pre W _ hpre ⟨rfl, hno⟩ hK
    obtain ⟨q, hq⟩ := hpre
    have h := HRI.out
    rw [← hq, rise_append] at h
    exact absurd h.1 hno
  case body =>
    rintro l pre ⟨x, hx⟩ W ⟨⟨hse, hla, hri⟩, hB⟩ hlen
    obtain ⟨hx0, hxn, hget⟩ := HPL.out x hx
    obtain ⟨la, hla_⟩ : ∃ la, (vals pre).getLast?.getD (-1) = la := ⟨_, rfl⟩
    rw [hla_] at hla
    have hr6 := (S9.out.bx (w2.heap.size, #[.int .i64 n, .slice A6 X6.length c6]) (by simp)).on hB
    have hre := (S9.out.bx (w.heap.size, #[.bool false]) (by simp)).on hB
    have s0_ := hse.c 0 _ rfl; have t0_ := hse.fz 0; have l0_ := hla.c 0 _ rfl; have f0_ := hla.fz 0; have r0_ := hr6.c 0 _ rfl; have r1_ := hr6.c 1 _ rfl; have e0_ := hre.c 0 _ rfl; have g0_ := hre.fz 0
    have hrx : Rise (-1) (vals (pre ++ [(⟨x, hx⟩ : Pl (wf X6) X6.length)])) ↔ la < x := by
      show Rise (-1) ((pre ++ [(⟨x, hx⟩ : Pl (wf X6) X6.length)]).map (·.1)) ↔ _
      rw [List.map_append, rise_append]
      show (Rise (-1) (vals pre) ∧ Rise ((vals pre).getLast?.getD (-1)) [x]) ↔ _
      rw [hla_]
      exact ⟨fun h => h.2.1, fun h => ⟨hri, h, trivial⟩⟩
    by_cases hle : x ≤ la
    · gi_wp2_with (refine ⟨trivial, ?_⟩)
      exact ⟨KeepsOthers.setCell _ _ _, rfl, fun h => absurd (hrx.1 h) (by omega)⟩
    · have hle' : la < x := by omega
      gi_wp2_with (first
        | (refine ⟨trivial, ?_⟩; gi_at_call 25; refine (CallsIn.inRound l (callsIn_wide.2 (words_Get.calls n A6 c6 X6 x true _ (Kd.C_below K6.out hB) L6.out hget))).mono ?_; rintro e W2 ⟨rfl, hb⟩; have HB2 := Aside0.mk hb; have hse2 := hse.on hb; have hla2 := hla.on hb; clear s0_ t0_ l0_ f0_ r0_ r1_ e0_ g0_; have s0_ := hse2.c 0 _ rfl; have t0_ := hse2.fz 0; have l0_ := hla2.c 0 _ rfl; have f0_ := hla2.fz 0; clear hb)
        | (refine ⟨trivial, ?_⟩))
      have hlt2 := HB2.out.size
      have hlw := hla.lt
      have hlv : vals (pre ++ [(⟨x, hx⟩ : Pl (wf X6) X6.length)]) = vals pre ++ [x] := List.map_append
      show KeepsOthers W _ ∧ KpB [Bs, gh, 0] W _ ∧ _ ∧ _
      refine ⟨⟨by simpa using hlt2, fun k o hk ho => ?_⟩, ?_, ⟨?_, ?_, ?_⟩, ?_⟩
      · exact ((KeepsOthers.setCell W2 _ _).trans (KeepsOthers.setCell _ _ _)).same k o ((HB2.out.block k (Array.getElem?_eq_some_iff.1 hk).1).trans hk) ho
      · intro k hk
        have h3 : k < w9.heap.size := by
          have := HBS.out.lt
          simp at hk
          omega
        exact ((Below.heap_setCell _ ⟨w9.heap.size, 0, none⟩ _ _ (by show k ≠ w9.heap.size; omega)).trans (Below.heap_setCell _ ⟨w9.heap.size + 1, 0, none⟩ _ _ (by show k ≠ w9.heap.size + 1; omega))).trans (HB2.out.block k (by omega))
      · have h := (Bx.far (hse.on HB2.out) (p := ⟨w9.heap.size + 1, 0, none⟩) (by show _ ≠ w9.heap.size + 1; omega) (.int .i64 x)).set 0 (.int .i64 ((pre.length : Int) + 1)) rfl
        rw [show (((pre ++ [(⟨x, hx⟩ : Pl (wf X6) X6.length)]).length : Nat) : Int) = (pre.length : Int) + 1 by simp]
        exact h
      · rw [hlv, List.getLast?_append]
        exact Bx.far ((hla.on HB2.out).set 0 (.int .i64 x) rfl) (p := ⟨w9.heap.size, 0, none⟩) (by show _ ≠ w9.heap.size; omega) _
      · exact hrx.2 hle'
      · exact ((below_then hB hB.size HB2.out).setCell (p := ⟨w9.heap.size + 1, 0, none⟩) (by simp) _).setCell (p := ⟨w9.heap.size, 0, none⟩) (Nat.le_refl _) _
  case done =>
    rintro D ys W hD hys ⟨⟨hse, hla, hri⟩, hB⟩ hK
    have hre := (S9.out.bx (w.heap.size, #[.bool false]) (by simp)).on hB
    have s0_ := hse.c 0 _ rfl; have e0_ := hre.c 0 _ rfl; have g0_ := hre.fz 0
    have hlen : (ys.length : Int) = nn := by rw [← HN.out, ← hys, List.length_map]
    gi_wp2
    have hK1 := (KeepsOthers.setCell W ⟨w.heap.size, 0, none⟩ (.bool true)).same D _ hK rfl
    have hg : ∀ r, some D = some r → ∃ o : Obj, (W.setCell ⟨w.heap.size, 0, none⟩ (.bool true)).heap[r]? = some o ∧ o.isCells = false := fun r e => by cases e; exact ⟨_, hK1, rfl⟩
    have hq3 := Bx.kept (hre.set 0 (.bool true) rfl) (grownBy_putObj' _ D (.deferred none)) hg
    refine ⟨by simp, .inl ⟨_, _, rfl, run_takeDeferred hK1, ?_⟩⟩
    have c0_ := hq3.c 0 _ rfl
    refine ⟨.bool true, ?_, rfl, ?_⟩
    · simp [results, Tryd.f6, go_sem, c0_]
    · have hD9 : w9.heap.size ≤ D := by simp at hD; omega
      exact ((hbw W hB).setCell (p := ⟨w.heap.size, 0, none⟩) (Nat.le_refl _) _).trans (belowK_b (w := w) (Nat.le_refl _) _ D _ _ (by have := hB9_.size; omega) hK1 rfl rfl)
end Go.Proofs.YtlghmadoogblcaaDoor.Adds
end
section
namespace Go.Proofs.YtlghmadoogblcaaDoor.RefPlain
open Go Go.RowKit Go.Proofs.YtlghmadoogblcaaDoor.PW Go.Proofs.YtlghmadoogblcaaDoor.PB Go.Proofs.YtlghmadoogblcaaDoorW.PrintWords Go.Proofs.YtlghmadoogblcaaDoorW.PrintLast Go.Proofs.YtlghmadoogblcaaDoorW.PrintMore Go.Proofs.YtlghmadoogblcaaDoor.Bits Go.Proofs.YtlghmadoogblcaaDoor.Rowp
set_option maxRecDepth 100000
set_option linter.unusedVariables false
theorem getbit {n : Nat} {W : Nat → Nat} (g : Rowp.Good n W) (i : Nat) (hi : i < n) : (Go.bits .and .u64 (shr .u64 (rd (rowOf (nw n) W) ((i / 64 : Nat) : Int)) ((i % 64 : Nat) : Int)) 1 == 1) = bitAt W i := by
  rw [rowOf_rd _ _ _ (lt_nw hi), and_bit _ _ (g.lt _ (lt_nw hi)) (by omega), bit_one]
  rfl
theorem get_spec {n : Nat} {W : Nat → Nat} (g : Rowp.Good n W) (i : Nat) (hi : i < n) : words_Get.f (n : Int) (rowOf (nw n) W) (i : Int) = some (bitAt W i) := by
  have hle := g.le
  have h1 := lt_nw hi
  have hm := nw_le hle
  unfold words_Get.f
  rw [valid_spec g, Option.bind_some, if_pos rfl, if_pos (by omega), if_pos (by omega), tdiv64, tmod64, w64 ((i / 64 : Nat) : Int) (by omega), if_pos (by omega), rowOf_len, if_pos (by omega), if_pos (by omega), getbit g i hi]
end Go.Proofs.YtlghmadoogblcaaDoor.RefPlain
end
section
namespace Go.Proofs.YtlghmadoogblcaaDoor.PW
open Go.RowKit Go.Proofs.YtlghmadoogblcaaDoorW.PrintWords Go.Proofs.YtlghmadoogblcaaDoorW.PrintLast Go.Proofs.YtlghmadoogblcaaDoorW.PrintMore
attribute [local go_sem] max2_int min2_int max_two min_two max_three min_three max_four min_four   -- for this text's walks alone
set_option linter.unusedVariables false
set_option linter.unusedSimpArgs false
end Go.Proofs.YtlghmadoogblcaaDoor.PW
end
section
namespace Go.Proofs.YtlghmadoogblcaaDoor.Rowp
open Go Go.RowKit Go.Proofs.YtlghmadoogblcaaDoor.PW Go.Proofs.YtlghmadoogblcaaDoorW.PrintWords Go.Proofs.YtlghmadoogblcaaDoorW.PrintLast Go.Proofs.YtlghmadoogblcaaDoorW.PrintMore Go.Proofs.YtlghmadoogblcaaDoor.Bits
set_option maxRecDepth 100000
set_option linter.unusedVariables false
theorem rd31_0 (x y : S31) : rd_T31 [x, y] 0 = x := rfl
theorem rd31_1 (x y : S31) : rd_T31 [x, y] 1 = y := rfl
theorem fits_spec {n : Nat} {A B : Nat → Nat} (ga : Good n A) (gb : Good n B) (k : Nat) : words_fits.f (k + 6) [⟨(n : Int), rowOf (nw n) A⟩, ⟨(n : Int), rowOf (nw n) B⟩] = some 0 := by
  unfold words_fits.f
  have e2 : (([⟨(n : Int), rowOf (nw n) A⟩, ⟨(n : Int), rowOf (nw n) B⟩] : List S31).length : Int) = 2 := rfl
  have w1 : wrap64 ((0 : Int) + 1) = 1 := w64 _ (by decide)
  have w2 : wrap64 ((1 : Int) + 1) = 2 := w64 _ (by decide)
  rw [words_fits.l0, e2, if_pos (by decide), if_pos (by decide), if_pos (by decide), rd31_0, valid_spec ga]
  simp only [Option.bind_some, if_true, w1]
  rw [words_fits.l0, if_pos (by decide), if_pos (by decide), e2, if_pos (by decide), rd31_1, valid_spec gb]
  simp only [Option.bind_some, if_true, w2]
  rw [words_fits.l0, if_neg (by decide), e2]
  rw [words_fits.l1, if_pos (by decide), if_pos (by decide), e2, if_pos (by decide), if_pos (by decide), rd31_0, if_pos rfl, w1]
  rw [words_fits.l1, if_pos (by decide), if_pos (by decide), e2, if_pos (by decide), if_pos (by decide), rd31_1, rd31_0, if_pos rfl, w2]
  rw [words_fits.l1, if_neg (by decide)]
theorem fits_at {n : Nat} {A B : Nat → Nat} (ga : Good n A) (gb : Good n B) (k : Nat) (hk : 6 ≤ k) : words_fits.f k [⟨(n : Int), rowOf (nw n) A⟩, ⟨(n : Int), rowOf (nw n) B⟩] = some 0 := by
  have h := fits_spec ga gb (k - 6)
  rwa [Nat.sub_add_cancel hk] at h
theorem and_loop {n m : Nat} {A B : Nat → Nat} (hle : m ≤ 1025) (hA : ∀ t, t < m → A t < 18446744073709551616) (hB : ∀ t, t < m → B t < 18446744073709551616) :
    ∀ (j k i : Nat) (iI : Int), iI = (i : Int) → j < k → i + j = m → words_And.l0 k (rowOf m B) ((m : Nat) : Int) iI (n : Int) (rowOf m (fun t => if t < i then A t &&& B t else A t)) = some ((n : Int), rowOf m (fun t => A t &&& B t), 0)
  | 0, k + 1, i, _, rfl, _, h => by
    rw [words_And.l0, if_neg (by omega)]
    congr 3
    exact rowOf_congr fun t ht => if_pos (by omega)
  | j + 1, k + 1, i, _, rfl, hk, h => by
    rw [words_And.l0, if_pos (by omega), if_pos (by omega), rowOf_len, if_pos (by omega), rowOf_len, if_pos (by omega), rowOf_rd _ _ _ (by omega), rowOf_rd _ _ _ (by omega), if_neg (by omega),
      bits_and_u64_nat _ _ (hA _ (by omega)) (hB _ (by omega)), rowOf_set, w64 ((i : Int) + 1) (by omega), show (i : Int) + 1 = ((i + 1 : Nat) : Int) by omega]
    have hc : rowOf m (fun t => if t = i then A i &&& B i else if t < i then A t &&& B t else A t) = rowOf m (fun t => if t < i + 1 then A t &&& B t else A t) := by
      refine rowOf_congr fun t ht => ?_
      by_cases e : t = i
      · subst e; rw [if_pos rfl, if_pos (by omega)]
      · rw [if_neg e]
        by_cases h2 : t < i
        · rw [if_pos h2, if_pos (by omega)]
        · rw [if_neg h2, if_neg (by omega)]
    exact (congrArg (words_And.l0 k (rowOf m B) ((m : Nat) : Int) _ (n : Int)) hc).trans (and_loop hle hA hB j k (i + 1) _ rfl (by omega) (by omega))
theorem and_spec {n : Nat} {A B : Nat → Nat} (ga : Good n A) (gb : Good n B) (k : Nat) (hk : 1032 < k) : words_And.f k (n : Int) (rowOf (nw n) A) (n : Int) (rowOf (nw n) B) = some ((n : Int), rowOf (nw n) (fun t => A t &&& B t), 0) := by
  have hm : nw n ≤ 1025 := by have := ga.le; unfold nw; omega
  unfold words_And.f
  rw [fits_at ga gb k (by omega)]
  rw [Option.bind_some, if_pos rfl]
  rw [clone_spec n ga.le _ (rowOf_len _ _)]
  rw [Option.bind_some]
  have h := and_loop (n := n) (m := nw n) hm ga.lt gb.lt (nw n) k 0 0 rfl (by omega) (by omega)
  rw [rowOf_congr (W' := A) (fun t ht => if_neg (Nat.not_lt_zero t))] at h
  rw [rowOf_len]
  exact h
theorem xor_loop {n m : Nat} {A B : Nat → Nat} (hle : m ≤ 1025) (hA : ∀ t, t < m → A t < 18446744073709551616) (hB : ∀ t, t < m → B t < 18446744073709551616) :
    ∀ (j k i : Nat) (iI : Int), iI = (i : Int) → j < k → i + j = m → words_Xor.l0 k (rowOf m B) ((m : Nat) : Int) iI (n : Int) (rowOf m (fun t => if t < i then A t ^^^ B t else A t)) = some ((n : Int), rowOf m (fun t => A t ^^^ B t), 0)
  | 0, k + 1, i, _, rfl, _, h => by
    rw [words_Xor.l0, if_neg (by omega)]
    congr 3
    exact rowOf_congr fun t ht => if_pos (by omega)
  | j + 1, k + 1, i, _, rfl, hk, h => by
    rw [words_Xor.l0, if_pos (by omega), if_pos (by omega), rowOf_len, if_pos (by omega), rowOf_len, if_pos (by omega), rowOf_rd _ _ _ (by omega), rowOf_rd _ _ _ (by omega), if_neg (by omega),
      bits_xor_u64_nat _ _ (hA _ (by omega)) (hB _ (by omega)), rowOf_set, w64 ((i : Int) + 1) (by omega), show (i : Int) + 1 = ((i + 1 : Nat) : Int) by omega]
    have hc : rowOf m (fun t => if t = i then A i ^^^ B i else if t < i then A t ^^^ B t else A t) = rowOf m (fun t => if t < i + 1 then A t ^^^ B t else A t) := by
      refine rowOf_congr fun t ht => ?_
      by_cases e : t = i
      · subst e; rw [if_pos rfl, if_pos (by omega)]
      · rw [if_neg e]
        by_cases h2 : t < i
        · rw [if_pos h2, if_pos (by omega)]
        · rw [if_neg h2, if_neg (by omega)]
    exact (congrArg (words_Xor.l0 k (rowOf m B) ((m : Nat) : Int) _ (n : Int)) hc).trans (xor_loop hle hA hB j k (i + 1) _ rfl (by omega) (by omega))
theorem xor_spec {n : Nat} {A B : Nat → Nat} (ga : Good n A) (gb : Good n B) (k : Nat) (hk : 1032 < k) : words_Xor.f k (n : Int) (rowOf (nw n) A) (n : Int) (rowOf (nw n) B) = some ((n : Int), rowOf (nw n) (fun t => A t ^^^ B t), 0) := by
  have hm : nw n ≤ 1025 := by have := ga.le; unfold nw; omega
  unfold words_Xor.f
  rw [fits_at ga gb k (by omega)]
  rw [Option.bind_some, if_pos rfl]
  rw [clone_spec n ga.le _ (rowOf_len _ _)]
  rw [Option.bind_some]
  have h := xor_loop (n := n) (m := nw n) hm ga.lt gb.lt (nw n) k 0 0 rfl (by omega) (by omega)
  rw [rowOf_congr (W' := A) (fun t ht => if_neg (Nat.not_lt_zero t))] at h
  rw [rowOf_len]
  exact h
end Go.Proofs.YtlghmadoogblcaaDoor.Rowp
end
section
namespace Go.Proofs.YtlghmadoogblcaaDoor.Rowp
open Go Go.RowKit Go.Proofs.YtlghmadoogblcaaDoor.PW Go.Proofs.YtlghmadoogblcaaDoorW.PrintWords Go.Proofs.YtlghmadoogblcaaDoorW.PrintLast Go.Proofs.YtlghmadoogblcaaDoorW.PrintMore Go.Proofs.YtlghmadoogblcaaDoor.Bits
set_option maxRecDepth 100000
set_option linter.unusedVariables false
theorem good_and {n : Nat} {A B : Nat → Nat} (ga : Good n A) (gb : Good n B) : Good n (fun t => A t &&& B t) :=
  ⟨ga.le, fun i hi => bits_and_n _ _ (ga.lt i hi) (gb.lt i hi), fun h => by
    show (A (nw n - 1) &&& B (nw n - 1)) &&& mask n = _
    rw [Nat.and_assoc, gb.last h]⟩
theorem good_xor {n : Nat} {A B : Nat → Nat} (ga : Good n A) (gb : Good n B) : Good n (fun t => A t ^^^ B t) :=
  ⟨ga.le, fun i hi => bits_xor_n _ _ (ga.lt i hi) (gb.lt i hi), fun h => by
    show (A (nw n - 1) ^^^ B (nw n - 1)) &&& mask n = _
    rw [Nat.and_xor_distrib_right, ga.last h, gb.last h]⟩
end Go.Proofs.YtlghmadoogblcaaDoor.Rowp
end
section
namespace Go.Proofs.YtlghmadoogblcaaDoor.Rowp
open Go Go.RowKit Go.Proofs.YtlghmadoogblcaaDoor.PW Go.Proofs.YtlghmadoogblcaaDoorW.PrintWords Go.Proofs.YtlghmadoogblcaaDoorW.PrintLast Go.Proofs.YtlghmadoogblcaaDoorW.PrintMore Go.Proofs.YtlghmadoogblcaaDoor.Bits
set_option maxRecDepth 100000
set_option linter.unusedVariables false
theorem pair_spec (l0 l1 : List Bool) (k : Nat) (hk : 65538 < k) : ∃ (n : Nat) (A B : Nat → Nat), Good n A ∧ Good n B ∧ vivariumlaw02_pair.f k l0 l1 = some ((n : Int), rowOf (nw n) A, (n : Int), rowOf (nw n) B, true) := by
  let n := min (min l0.length l1.length) 65538
  have hn : n = min (min l0.length l1.length) 65538 := rfl
  have e : mn (mn (l0.length : Int) (l1.length : Int)) 65538 = (n : Int) := by unfold mn; split <;> split <;> omega
  have t0 : (l0.take ((n : Int)).toNat).length = n := by rw [Int.toNat_natCast, List.length_take]; omega
  have t1 : (l1.take ((n : Int)).toNat).length = n := by rw [Int.toNat_natCast, List.length_take]; omega
  obtain ⟨A, ga, ha⟩ := of_spec (l := l0.take ((n : Int)).toNat) (by omega) k hk
  obtain ⟨B, gb, hb⟩ := of_spec (l := l1.take ((n : Int)).toNat) (by omega) k hk
  rw [t0] at ga ha
  rw [t1] at gb hb
  refine ⟨n, A, B, ga, gb, ?_⟩
  unfold vivariumlaw02_pair.f
  rw [e, if_pos (by omega), if_pos (by omega), ha, Option.bind_some, if_pos (by omega), hb, Option.bind_some, if_pos rfl, if_pos rfl, if_pos rfl]
  simp
end Go.Proofs.YtlghmadoogblcaaDoor.Rowp
end
section
namespace Go.Proofs.YtlghmadoogblcaaDoor.Alive
open Go.RowKit Go.Proofs.YtlghmadoogblcaaDoor.PW Go.Proofs.YtlghmadoogblcaaDoorW.PrintWords Go.Proofs.YtlghmadoogblcaaDoorW.PrintLast Go.Proofs.YtlghmadoogblcaaDoorW.PrintMore
set_option maxRecDepth 100000
theorem alive_true : vivariumlaw02_alive.f 100 = some true := by decide +kernel
end Go.Proofs.YtlghmadoogblcaaDoor.Alive
end
section
namespace Go.Proofs.YtlghmadoogblcaaDoor.Adds
open Go Go.RowKit Go.Proofs.YtlghmadoogblcaaDoorW.PrintWords Go.Proofs.YtlghmadoogblcaaDoorW.PrintLast Go.Proofs.YtlghmadoogblcaaDoorW.PrintMore Go.Proofs.YtlghmadoogblcaaDoor.PW Go.Proofs.YtlghmadoogblcaaDoor.Rowp Go.Proofs.YtlghmadoogblcaaDoor.RefPlain Go.Proofs.YtlghmadoogblcaaDoor.Bits1 Go.Proofs.YtlghmadoogblcaaDoor.TurnPlain Go.Proofs.YtlghmadoogblcaaDoor.PopPlain Go.Proofs.YtlghmadoogblcaaDoor.Turned
set_option linter.unusedVariables false
set_option maxRecDepth 100000
theorem alive_at (k : Nat) (hk : 100 ≤ k) : vivariumlaw02_alive.f k = some true := by
  obtain ⟨d, rfl⟩ : ∃ d, k = 100 + d := ⟨k - 100, by omega⟩
  clear hk
  induction d with
  | zero => exact Alive.alive_true
  | succ d ih => exact vivariumlaw02_alive.mono _ _ ih
theorem law (A0 A1 : Option Addr) (c0 c1 : Nat) (l0 l1 : List Bool) (w : World) (hr0 : Kd.C Kd.bool w A0 l0.length l0) (hc0 : l0.length ≤ c0) (hr1 : Kd.C Kd.bool w A1 l1.length l1) (hc1 : l1.length ≤ c1) (hT : Tz.Tab w) :
    Calls Tryd.prog 6 #[.slice A0 l0.length c0, .slice A1 l1.length c1] w fun e w' => e = .returned (.bool true) ∧ Below w.heap.size w w' := by
  obtain ⟨K, hK⟩ : ∃ K, K = 70000 := ⟨_, rfl⟩
  obtain ⟨n, A, B, ga, gb, hp⟩ := pair_spec l0 l1 K (by omega)
  have hle := ga.le
  have hm := nw_le hle
  have hb : ∀ W : Nat → Nat, (plc W (nw n)).length ≤ 65600 := fun W => by have := plc_len W (nw n); omega
  have hs := plc_add A B (nw n)
  have b1 := hb A; have b2 := hb B; have b3 := hb (fun t => A t &&& B t); have b4 := hb (fun t => A t ^^^ B t)
  refine walk K A0 A1 c0 c1 l0 l1 (n : Int) _ _ _ _ _ _ _ _ w hr0 hc0 hr1 hc1 hT (alive_at K (by omega)) hp (and_spec ga gb K (by omega)) (xor_spec ga gb K (by omega)) (ones_spec ga K (by omega)) (ones_spec gb K (by omega)) (ones_spec (good_and ga gb) K (by omega)) (ones_spec (good_xor ga gb) K (by omega)) (by omega) (by omega) (by omega) (by omega) (by omega)
    (valid_spec ga) (clone_spec n hle _ (rowOf_len _ _)) ⟨by omega, by omega⟩ (by rw [rowOf_len]; exact hm) ?_ ?_ ?_ ?_
  · intro i hi
    rw [rowOf_len] at hi
    rw [List.getD_eq_getElem?_getD, rowOf_get _ _ _ hi]
    have := ga.lt i hi
    show (0 : Int) ≤ ((A i : Nat) : Int) ∧ ((A i : Nat) : Int) < _
    omega
  · rw [plc_row]
    intro x hx
    obtain ⟨h0, h1⟩ := plc_range ga x hx
    obtain ⟨q, rfl, h2, h3⟩ := (mem_plc A (nw n) x).1 hx
    exact ⟨h0, h1, by rw [get_spec ga q (by omega), h3]⟩
  · rw [plc_row]
    exact plc_rise A (nw n)
  · rw [plc_row]
end Go.Proofs.YtlghmadoogblcaaDoor.Adds
end
section
namespace Go.Proofs.YtlghmadoogblcaaDoor.OpenBool
open Go Go.RowKit Go.Proofs.YtlghmadoogblcaaDoorW.PrintWords Go.Proofs.YtlghmadoogblcaaDoorW.PrintLast Go.Proofs.YtlghmadoogblcaaDoorW.PrintMore
set_option linter.unusedVariables false
theorem open_boolrow {H : Type} {enc : TypeId × Value → H} {P : Program} {w : World} {base : Nat} {held : Bool} {r : Reach} {b0 : Nat} {t e : TypeId} {v : Value} {d : DataW H} {ps : List MemPlace} (ht : P.underlying t = some (.slice e)) (he : P.underlying e = some .bool) (hc : P.cellsOf e = 1)
    (hval : Value.okWide P w r b0 t v) (hd : DataW.Trod enc P w base (fun _ => true) held t v d ps) :
    ∃ (A : Option Addr) (c : Nat) (l : List Bool), v = .slice A l.length c ∧ l.length ≤ c ∧ Kd.C Kd.bool w A l.length l := by
  obtain ⟨a, len, cap, rfl⟩ := Go.WideShapes.okWide_slice ht hval
  obtain ⟨fuel, hf⟩ := hd
  rcases Go.Deep.open_bools ht he hc hf with ⟨h1, _⟩ | ⟨ad, n, c, Bf, h1, _, hl, hm, _, hcell⟩
  · have e1 : Value.slice a len cap = .slice none 0 0 := by simpa [Value.cells] using h1
    injection e1 with e1 e2 e3
    subst e1 e2 e3
    exact ⟨none, 0, [], rfl, Nat.le_refl _, Kd.C_nil _ _⟩
  · have e1 : Value.slice a len cap = .slice (some ad) n c := by simpa [Value.cells] using h1
    injection e1 with e1 e2 e3
    subst e1 e2 e3
    have hlen : ((List.range len).map Bf).length = len := by simp
    refine ⟨some ad, cap, (List.range len).map Bf, by rw [hlen], by rw [hlen]; exact hl, by simp, by rw [hlen]; simp [maxLen] at hm; omega, fun _ => ⟨ad, rfl, fun j p hj => ⟨_, rfl, rfl, fun i u hu => ?_⟩⟩⟩
    have hj' : j < len := by
      have := (List.getElem?_eq_some_iff.1 hj).1
      simpa using this
    have hp : p = Bf j := by
      rw [List.getElem?_map, List.getElem?_range hj'] at hj
      simpa using hj.symm
    match i, hu with
    | 0, hu =>
      obtain rfl : Value.bool p = u := by simpa using hu
      rw [hp]
      simpa [Kd.bool, Kd.scalar] using hcell j (by omega)
    | i + 1, hu => simp at hu
end Go.Proofs.YtlghmadoogblcaaDoor.OpenBool
end
section
namespace Go.Proofs.YtlghmadoogblcaaDoor.wordsAdds
open Go.ChangeShapes Go.WideShapes Go.ChangeAt Go.RowKit Go.Joins Go.Deep
open Go.ChangeMaps (open_string shut_string)
set_option linter.unusedVariables false
theorem own : ownKnob Tryd.prog.godebug = none := by kernel_rfl
theorem laidOut : laidOutB Tryd.prog = true := by kernel_rfl
theorem laidPlain {W : World} (h : laidMetH Tryd.prog Rows.wordsAddsRow.laid W) : laidMet Tryd.prog Rows.wordsAddsRow.laid W := by
  rw [MakeChecks.laidMetH_plain _ _ _ (by kernel_rfl)] at h; exact h
theorem ctz {W : World} (h : laidMetH Tryd.prog Rows.wordsAddsRow.laid W) : Lib.TabIs Tryd.prog W "math/bits.deBruijn64tab" .u8 Tz.tab :=
  Lib.tabIs_of_head (g := 0) (t := 74) (e := 5) (n := 64) (by kernel_rfl) (by kernel_rfl) Tryd.underlying74 Tryd.underlying5 (by kernel_rfl) (by kernel_rfl) (laidPlain h)
theorem door_met (os : Os) (args : Array Value) : laidMetH Tryd.prog Rows.wordsAddsRow.laid ((World.doorLaid Tryd.prog 24 os).forCall (fun _ _ => 0) ⟨#[], args, []⟩).memory :=
  laidMetH_of_parts3 (fuel := 8) (laidMet_of_run' 8 (by kernel_rfl) (by kernel_rfl)) (by kernel_rfl) (by kernel_rfl)
set_option maxRecDepth 100000 in
theorem lifted (os : Os) (started : os.Started) (H : Type) (enc : TypeId × Value → H) :
    ReturnsInHanded {} Tryd.checked os 6 .any (fun w args => (Rows.wordsAddsSpec.pre enc Tryd.prog Tryd.f6 [] false w args ∧ laidMetH Tryd.prog Rows.wordsAddsRow.laid w) ∧ sizedMet enc Tryd.prog Tryd.f6 (OpenSpec.ofChange Rows.wordsAddsSpec) false w args) (Rows.wordsAddsSpec.post enc Tryd.prog Tryd.f6 false true false false) := by
  refine returnsInHanded_of_change_and (C := Tryd.checked) (X := fun w _ => laidMetH Tryd.prog Rows.wordsAddsRow.laid w) (fun _ _ _ hh h => h.of_heap hh) own started (by kernel_rfl) Tryd.func6
    (ChangeSpec.witness_shaped (enc := enc) (C := Tryd.checked) (os := os) (X := fun w _ => laidMetH Tryd.prog Rows.wordsAddsRow.laid w) false (World.doorLaid Tryd.prog 24 os) #[.slice none 0 0, .slice none 0 0] 8 rfl (World.shaped_of_RefB (by kernel_rfl) (by kernel_rfl)) (by kernel_rfl) (by kernel_rfl) (by kernel_rfl) (door_met os _)) ?_
  intro W base args ds gs before hval0 hW _ hsz0 hL _
  have hsz : (DataW.weightsEach Tryd.prog (Tryd.f6.params.toList ++ Rows.wordsAddsSpec.plain.varTypes Tryd.prog) (ds ++ gs)).all (· ≤ reachBytes) = true := hsz0
  have hval : ∀ (j : Nat) t v, Tryd.f6.params[j]? = some t → args[j]? = some v → Value.okWide Tryd.prog W .any base t v := hval0
  have hW' := hW
  obtain ⟨p, q, hA0, hV, rfl, hfz, hnd⟩ := hW
  have hA : DataW.TrodAll enc Tryd.prog W 0 (fun _ => true) true Tryd.f6.params.toList args.toList ds p := hA0
  rw [Tryd.params6] at hA hval hsz
  obtain ⟨v0, vs0, d0, ds0, p0, q0, hargs, rfl, rfl, h0, r0⟩ := trodAll_cons hA
  obtain ⟨v1, vs1, d1, ds1, p1, q1, rfl, rfl, rfl, h1, r1⟩ := trodAll_cons r0
  obtain ⟨rfl, rfl, rfl⟩ := trodAll_nil r1
  obtain rfl : args = #[v0, v1] := by cases args; simp_all
  obtain ⟨rfl, rfl⟩ := trodVars_none hV
  have k0 := h0
  have lt0 : ∀ x ∈ p0, x.block < W.heap.size := by obtain ⟨m, hm⟩ := k0; exact DataW.trod_lt m _ _ _ hm
  have k1 := h1
  have lt1 : ∀ x ∈ p1, x.block < W.heap.size := by obtain ⟨m, hm⟩ := k1; exact DataW.trod_lt m _ _ _ hm
  clear hA0 hval0 hsz0
  clear hsz
  have done : ∀ W', Below W.heap.size W W' → ∃ r, (Ending.returned (.bool true)) = .returned r ∧ Rows.wordsAddsSpec.post enc Tryd.prog Tryd.f6 false true false false W #[v0, v1] r W' := fun W' bel =>
    ⟨_, rfl, _, _, _, [], _, [], hW', trodAll_mk1 (shut_bool Tryd.underlying4 _), (trodAll_cons_mk (Below.trod laidOut (by kernel_rfl) (of_decide_eq_true (by kernel_rfl)) k0 bel lt0) (trodAll_cons_mk (Below.trod laidOut (by kernel_rfl) (of_decide_eq_true (by kernel_rfl)) k1 bel lt1) trodAll_mk0)), rfl, bel.frame _, fun h => by cases h⟩
  obtain ⟨A0, m0, l0, rfl, hc0, hr0⟩ := OpenBool.open_boolrow Tryd.underlying47 Tryd.underlying4 (by kernel_rfl) (hval 0 47 v0 rfl rfl) h0
  obtain ⟨A1, m1, l1, rfl, hc1, hr1⟩ := OpenBool.open_boolrow Tryd.underlying47 Tryd.underlying4 (by kernel_rfl) (hval 1 47 v1 rfl rfl) h1
  refine (Adds.law A0 A1 m0 m1 l0 l1 W hr0 hc0 hr1 hc1 (ctz hL)).mono fun e W' ⟨he, bel⟩ => ?_
  subst he
  exact done W' bel
theorem said : Rows.WordsAddsSaid :=
  OpenClaim.holds_of_wide 6 Tryd.f6 rfl rfl rfl rfl rfl rfl rfl ⟨rfl, rfl, rfl, rfl, rfl⟩ rfl rfl rfl rfl rfl (by kernel_rfl) Tryd.func6 (by kernel_rfl)
    (of_decide_eq_true (by kernel_rfl)) (by unfold Func.isWrapper; first | (rw [if_pos (by decide +kernel)]; kernel_rfl) | (rw [if_neg (by decide +kernel)]; exact ⟨rfl, rfl⟩))
    (fun os started H enc _ => lifted os started H enc)
theorem plain (f : FuncId) (fn : Func) (hf : Tryd.pinned.checked.prog.funcNamed "vivarium/vivariumlaw02.WordsAdds" = some f) (hfn : Tryd.pinned.checked.prog.funcs[f]? = some fn) :
    false = Tryd.pinned.checked.prog.looks [] ∧ ∀ (j : Nat) t, fn.params[j]? = some t → Tryd.pinned.checked.prog.wantsStandIn t = false := by
  obtain rfl : f = 6 := Option.some.inj ((show Tryd.prog.funcNamed "vivarium/vivariumlaw02.WordsAdds" = some 6 by kernel_rfl).symm.trans hf) |>.symm
  obtain rfl : fn = Tryd.f6 := (Option.some.inj (Tryd.func6.symm.trans hfn)).symm
  refine ⟨by kernel_rfl, fun j t ht => ?_⟩
  rw [Tryd.params6] at ht
  have hm : t ∈ [47, 47] := by simpa using Array.mem_of_getElem? ht
  have hall : ([47, 47].all fun u => !Tryd.prog.wantsStandIn u) = true := by kernel_rfl
  exact (show Tryd.prog.wantsStandIn t = false by simpa using List.all_eq_true.1 hall t hm)
theorem card : Rows.WordsAddsCardSaid :=
  Claim7.holds_tied_plain_at .later [] _ _ _ _ said (fun _ h => by cases h) (by kernel_rfl) (fun _ h => by cases h) wordsAdds_row_tie rfl ⟨rfl, rfl⟩ (by kernel_rfl) rfl plain (by kernel_rfl)
end Go.Proofs.YtlghmadoogblcaaDoor.wordsAdds
namespace Go.Proofs.YtlghmadoogblcaaDoor
theorem wordsAdds_holds : Rows.WordsAddsCardSaid := wordsAdds.card
#print axioms wordsAdds_holds
end Go.Proofs.YtlghmadoogblcaaDoor
end
