/- reader.part: a side of a text, with what stands behind it. -/
import Derived.Test.YtmcidodpnhkdfaaDoorPartPlain
namespace Go.Proofs.YtmcidodpnhkdfaaDoor.PartWalk
open Go.RowKit Go.Proofs.YtmcidodpnhkdfaaDoorW.PrintWords Go.Proofs.YtmcidodpnhkdfaaDoorW.PrintLast Go.Proofs.YtmcidodpnhkdfaaDoorW.PrintMore Go.Proofs.YtmcidodpnhkdfaaDoor.ParseSpec Go.Proofs.YtmcidodpnhkdfaaDoor.PQn Go.Proofs.YtmcidodpnhkdfaaDoor.Idx Go.Proofs.YtmcidodpnhkdfaaDoor.PQ Go.Proofs.YtmcidodpnhkdfaaDoor.PartPlain
set_option linter.unusedVariables false
set_option linter.unusedSimpArgs false
def toS (p : Pt) : S72 := ⟨⟨p.at_, p.en⟩, p.star, p.sign, ⟨p.fr, p.to_⟩⟩
/-- What a side leaves. -/
def After (w0 w w' : World) (g : Nat) (s : ByteArray) (at_ : Int) (pv : Value) (ps : List S72) : Prop :=
  ∃ pv', w'.heap[g]? = some (.cells #[.string s, .int .i64 at_, pv'] 66 (0, 0)) ∧ Kd.R k72 72 w' w0.heap.size (fun _ => True) pv' ps ∧ Below w0.heap.size w0 w' ∧ KeepBut w w' g pv.ownBlock ∧ (pv'.ownBlock = pv.ownBlock ∨ ∃ b, pv'.ownBlock = some b ∧ w.heap.size ≤ b)
theorem Afterkeep {w0 w w' : World} {g : Nat} {s : ByteArray} {at_ : Int} {pv : Value} {ps : List S72} (hR : Kd.R k72 72 w w0.heap.size (fun k => True ∧ k ≠ g) pv ps) (hG : w'.heap[g]? = some (.cells #[.string s, .int .i64 at_, pv] 66 (0, 0))) (hB : Below w0.heap.size w0 w') (hK : KeepBut w w' g none) : After w0 w w' g s at_ pv ps :=
  ⟨pv, hG, Kd.R_mono (Kd.R_keep hR hK (fun _ hk => hk.2)) (fun _ _ => trivial), hB, ⟨hK.1, fun k h1 h2 _ => hK.2 k h1 h2 (by simp)⟩, .inl rfl⟩

def z72 : Value := .agg #[.int .i64 0, .int .i64 0, .int .i64 0, .int .i64 0, .int .i64 0, .int .i64 0]
theorem info72 : (Tryd.prog.info? 72).map (fun i => (i.zero, i.size, i.bytes)) = some (some z72, 6, 48) := by kernel_rfl

abbrev P6 (a b c d e f : Int) : Array Value := #[.int .i64 a, .int .i64 b, .int .i64 c, .int .i64 d, .int .i64 e, .int .i64 f]
theorem froz {W : World} {g t : Nat} {cs : Array Value} (h : W.heap[g]? = some (.cells cs t (0, 0))) : W.frozen? ⟨g, 0, none⟩ = false ∧ W.frozen? ⟨g, 1, none⟩ = false ∧ W.frozen? ⟨g, 2, none⟩ = false ∧ W.frozen? ⟨g, 3, none⟩ = false ∧ W.frozen? ⟨g, 4, none⟩ = false ∧ W.frozen? ⟨g, 5, none⟩ = false :=
  ⟨blk_frozen h 0, blk_frozen h 1, blk_frozen h 2, blk_frozen h 3, blk_frozen h 4, blk_frozen h 5⟩
theorem p6_cells {W : World} {g t : Nat} {a b c d e f : Int} (h : W.heap[g]? = some (.cells (P6 a b c d e f) t (0, 0))) :
    W.cell? ⟨g, 0, none⟩ = some (.int .i64 a) ∧ W.cell? ⟨g, 1, none⟩ = some (.int .i64 b) ∧ W.cell? ⟨g, 2, none⟩ = some (.int .i64 c) ∧ W.cell? ⟨g, 3, none⟩ = some (.int .i64 d) ∧ W.cell? ⟨g, 4, none⟩ = some (.int .i64 e) ∧ W.cell? ⟨g, 5, none⟩ = some (.int .i64 f) :=
  ⟨(blk_cell h 0).trans rfl, (blk_cell h 1).trans rfl, (blk_cell h 2).trans rfl, (blk_cell h 3).trans rfl, (blk_cell h 4).trans rfl, (blk_cell h 5).trans rfl⟩
/-- What is known: the reader's block and the part's. -/
structure PB (w0 w W : World) (g g5 : Nat) (s : ByteArray) (at_ : Int) (pv : Value) (a b c d e f : Int) : Prop where
  below : Below w0.heap.size w0 W
  hG : W.heap[g]? = some (.cells #[.string s, .int .i64 at_, pv] 66 (0, 0))
  hP : W.heap[g5]? = some (.cells (P6 a b c d e f) 72 (0, 0))
  hK : KeepBut w W g none
  ne : g ≠ g5
  G5 : w.heap.size ≤ g5
  HW : w0.heap.size ≤ w.heap.size
  GE : w0.heap.size ≤ g
section
variable {w0 w W W' : World} {g g5 : Nat} {s : ByteArray} {at_ to_ : Int} {pv : Value} {a b c d e f a' b' c' d' e' f' : Int}
theorem PB.cells (h : PB w0 w W g g5 s at_ pv a b c d e f) : W.cell? ⟨g, 0, none⟩ = some (.string s) ∧ W.cell? ⟨g, 1, none⟩ = some (.int .i64 at_) ∧ W.frozen? ⟨g, 1, none⟩ = false :=
  ⟨(blk_cell h.hG 0).trans rfl, (blk_cell h.hG 1).trans rfl, blk_frozen h.hG 1⟩
theorem PB.set (h : PB w0 w W g g5 s at_ pv a b c d e f) (j : Nat) (v : Value) (hv : (P6 a b c d e f).setIfInBounds j v = P6 a' b' c' d' e' f') : PB w0 w (W.setCell ⟨g5, j, none⟩ v) g g5 s at_ pv a' b' c' d' e' f' :=
  ⟨below_set h.below (Nat.le_trans h.HW h.G5), blk_far h.hG (p := ⟨g5, j, none⟩) h.ne v, blk_put h.hP j v hv, keep_far h.hK (p := ⟨g5, j, none⟩) h.G5 v, h.ne, h.G5, h.HW, h.GE⟩
theorem PB.inc (h : PB w0 w W g g5 s at_ pv a b c d e f) (x : Int) : PB w0 w (W.setCell ⟨g, 1, none⟩ (.int .i64 x)) g g5 s x pv a b c d e f :=
  ⟨below_set h.below h.GE, blk_put (cs := #[.string s, .int .i64 at_, pv]) h.hG 1 (.int .i64 x) rfl, blk_far h.hP (p := ⟨g, 1, none⟩) h.ne.symm _, KeepBut.set_ h.hK 1 _, h.ne, h.G5, h.HW, h.GE⟩
theorem PB.inn (h : PB w0 w W g g5 s at_ pv a b c d e f) : PQn.IsS66 w0 W g s at_ pv := ⟨h.hG, h.GE⟩
theorem PB.on (h : PB w0 w W g g5 s at_ pv a b c d e f) (hi : PQn.IsS66 w0 W' g s to_ pv) (hb : Below w0.heap.size w0 W') (hk : KeepBut W W' g none) : PB w0 w W' g g5 s to_ pv a b c d e f :=
  ⟨hb, hi.1, (hk.2 g5 (blk_lt h.hP) h.ne.symm (by simp)).trans h.hP, h.hK.trans hk (.inl rfl), h.ne, h.G5, h.HW, h.GE⟩
end

set_option maxHeartbeats 4000000 in
set_option maxRecDepth 100000 in
theorem bad (s : ByteArray) (i : Nat) (pv : Value) (ps : List S72) (g : Nat) (w0 w : World) (hs : s.size ≤ 1048576) (hi : i ≤ s.size) (hl : ps.length ≤ 2) (hG : w.heap[g]? = some (.cells #[.string s, .int .i64 (i : Int), pv] 66 (0, 0))) (hge : w0.heap.size ≤ g) (hR : Kd.R k72 72 w w0.heap.size (fun _ => True) pv ps) (hB : Below w0.heap.size w0 w)
    (n1 : dg s i = i)  :
    Calls Tryd.prog 41 #[.pointer (some ⟨g, 0, none⟩), .bool true] w fun e w' => e = .returned (.int .i64 41) ∧ After w0 w w' g s (i : Int) pv ps := by
  have HR := Aside0.mk (Kd.R_types hR hG (g := g) (by decide))
  have HW := Aside0.mk hB.size
  have HG := Aside0.mk hG
  have HGE := Aside0.mk hge
  have HB := Aside0.mk hB
  have HK := Aside0.mk (KeepBut.refl w g none)
  have hu := Tryd.underlying72
  have hv := Tryd.underlying70
  have gc0 := (blk_cell HG.out 0).trans (show ((#[Value.string s, .int .i64 (i : Int), pv] : Array Value)[0]?) = some (Value.string s) from rfl)
  have gc1 := (blk_cell HG.out 1).trans (show ((#[Value.string s, .int .i64 (i : Int), pv] : Array Value)[1]?) = some (Value.int .i64 (i : Int)) from rfl)
  have gf1 := blk_frozen HG.out 1
  have N1 := Aside0.mk (number_bad 41 s pv hs i hi n1)
  clear hG hge hR hB n1
  go_enter Tryd.func41, Tryd.ntmps41
  go_wp2_with (first | ((with_reducible refine gate_dst (N := 5) rfl ?_); refine box_event ?hg (N := 5) ?hd (cs := #[.int .i64 0, .int .i64 0, .int .i64 0, .int .i64 0, .int .i64 0, .int .i64 0]) (t := 72) ?hr ?_; (case hd => rfl); (case hg => rfl); (case hr => first | (go_simp; done) | (go_simp; rfl)); intro g5 hg5 w5 hbox hb; (try clear gc0 gc1 gf1); have F : Aside0 (PB w0 w w5 g g5 s (i : Int) pv 0 0 0 0 0 0) := ⟨⟨below_step HB.out hb, blk_below HG.out hb, hbox, HK.out.trans (KeepBut.of_below hb g none) (.inl rfl), (by rw [hg5]; exact Nat.ne_of_lt (blk_lt HG.out)), (by rw [hg5]; exact keep_size HK.out), HW.out, HGE.out⟩⟩; clear hb hbox hg5 HB HG HK; obtain ⟨gc0, gc1, gf1⟩ := F.out.cells) | ((with_reducible refine gate_store (t := 72) (p := 5) (v := .tmp 7) rfl ?_); obtain ⟨r0, r1, r2, r3, r4, r5⟩ := froz F.out.hP; obtain ⟨q0, q1, q2, q3, q4, q5⟩ := p6_cells F.out.hP; refine store_event (w1 := ?wwwa) ?hgwa rfl rfl ?hrwa ?_; (case hgwa => rfl); (case hrwa => go_simp; rfl); intro wa hw; clear r0 r1 r2 r3 r4 r5 q0 q1 q2 q3 q4 q5; (try clear gc0 gc1 gf1); have hF_ : PB w0 w wa g g5 s (i : Int) pv 0 0 (-1) (-1) 0 0 := (by rw [hw]; exact ((((((F.out.set 0 (.int .i64 0) rfl).set 1 (.int .i64 0) rfl).set 2 (.int .i64 (-1)) rfl).set 3 (.int .i64 (-1)) rfl).set 4 (.int .i64 0) rfl).set 5 (.int .i64 0) rfl)); replace F := Aside0.mk hF_; clear hF_ hw; obtain ⟨gc0, gc1, gf1⟩ := F.out.cells) | (go_at_call 46; (with_reducible refine (topo_reader_number.calls (s.size + 1) g s (i : Int) pv 41 (i : Int) (i : Int) 41 s (i : Int) w0 _ F.out.inn F.out.below N1.out).mono ?_); rintro e wb ⟨rfl, hi_, hb_, hk_⟩; (try clear gc0 gc1 gf1); replace F := Aside0.mk (F.out.on hi_ hb_ hk_); clear hi_ hb_ hk_; obtain ⟨gc0, gc1, gf1⟩ := F.out.cells) | ((with_reducible refine gate_store (t := 70) (p := 13) (v := .tmp 11) rfl ?_); obtain ⟨r0, r1, r2, r3, r4, r5⟩ := froz F.out.hP; obtain ⟨q0, q1, q2, q3, q4, q5⟩ := p6_cells F.out.hP; refine store_event (w1 := ?wwwc) ?hgwc rfl rfl ?hrwc ?_; (case hgwc => rfl); (case hrwc => go_simp; rfl); intro wc hw; clear r0 r1 r2 r3 r4 r5 q0 q1 q2 q3 q4 q5; (try clear gc0 gc1 gf1); have hF_ : PB w0 w wc g g5 s (i : Int) pv (i : Int) (i : Int) (-1) (-1) 0 0 := (by rw [hw]; exact ((F.out.set 0 (.int .i64 (i : Int)) rfl).set 1 (.int .i64 (i : Int)) rfl)); replace F := Aside0.mk hF_; clear hF_ hw; obtain ⟨gc0, gc1, gf1⟩ := F.out.cells))
  go_ret
  exact ⟨rfl, Afterkeep HR.out F.out.hG F.out.below F.out.hK⟩
set_option maxHeartbeats 4000000 in
set_option maxRecDepth 100000 in
theorem badF (s : ByteArray) (i : Nat) (pv : Value) (ps : List S72) (g : Nat) (w0 w : World) (hs : s.size ≤ 1048576) (hi : i ≤ s.size) (hl : ps.length ≤ 2) (hG : w.heap[g]? = some (.cells #[.string s, .int .i64 (i : Int), pv] 66 (0, 0))) (hge : w0.heap.size ≤ g) (hR : Kd.R k72 72 w w0.heap.size (fun _ => True) pv ps) (hB : Below w0.heap.size w0 w)
    (n1 : dg s i = i)  :
    Calls Tryd.prog 41 #[.pointer (some ⟨g, 0, none⟩), .bool false] w fun e w' => e = .returned (.int .i64 41) ∧ After w0 w w' g s (i : Int) pv ps := by
  have HR := Aside0.mk (Kd.R_types hR hG (g := g) (by decide))
  have HW := Aside0.mk hB.size
  have HG := Aside0.mk hG
  have HGE := Aside0.mk hge
  have HB := Aside0.mk hB
  have HK := Aside0.mk (KeepBut.refl w g none)
  have hu := Tryd.underlying72
  have hv := Tryd.underlying70
  have gc0 := (blk_cell HG.out 0).trans (show ((#[Value.string s, .int .i64 (i : Int), pv] : Array Value)[0]?) = some (Value.string s) from rfl)
  have gc1 := (blk_cell HG.out 1).trans (show ((#[Value.string s, .int .i64 (i : Int), pv] : Array Value)[1]?) = some (Value.int .i64 (i : Int)) from rfl)
  have gf1 := blk_frozen HG.out 1
  have N1 := Aside0.mk (number_bad 41 s pv hs i hi n1)
  clear hG hge hR hB n1
  go_enter Tryd.func41, Tryd.ntmps41
  go_wp2_with (first | ((with_reducible refine gate_dst (N := 5) rfl ?_); refine box_event ?hg (N := 5) ?hd (cs := #[.int .i64 0, .int .i64 0, .int .i64 0, .int .i64 0, .int .i64 0, .int .i64 0]) (t := 72) ?hr ?_; (case hd => rfl); (case hg => rfl); (case hr => first | (go_simp; done) | (go_simp; rfl)); intro g5 hg5 w5 hbox hb; (try clear gc0 gc1 gf1); have F : Aside0 (PB w0 w w5 g g5 s (i : Int) pv 0 0 0 0 0 0) := ⟨⟨below_step HB.out hb, blk_below HG.out hb, hbox, HK.out.trans (KeepBut.of_below hb g none) (.inl rfl), (by rw [hg5]; exact Nat.ne_of_lt (blk_lt HG.out)), (by rw [hg5]; exact keep_size HK.out), HW.out, HGE.out⟩⟩; clear hb hbox hg5 HB HG HK; obtain ⟨gc0, gc1, gf1⟩ := F.out.cells) | ((with_reducible refine gate_store (t := 72) (p := 5) (v := .tmp 7) rfl ?_); obtain ⟨r0, r1, r2, r3, r4, r5⟩ := froz F.out.hP; obtain ⟨q0, q1, q2, q3, q4, q5⟩ := p6_cells F.out.hP; refine store_event (w1 := ?wwwa) ?hgwa rfl rfl ?hrwa ?_; (case hgwa => rfl); (case hrwa => go_simp; rfl); intro wa hw; clear r0 r1 r2 r3 r4 r5 q0 q1 q2 q3 q4 q5; (try clear gc0 gc1 gf1); have hF_ : PB w0 w wa g g5 s (i : Int) pv 0 0 (-1) (-1) 0 0 := (by rw [hw]; exact ((((((F.out.set 0 (.int .i64 0) rfl).set 1 (.int .i64 0) rfl).set 2 (.int .i64 (-1)) rfl).set 3 (.int .i64 (-1)) rfl).set 4 (.int .i64 0) rfl).set 5 (.int .i64 0) rfl)); replace F := Aside0.mk hF_; clear hF_ hw; obtain ⟨gc0, gc1, gf1⟩ := F.out.cells) | (go_at_call 46; (with_reducible refine (topo_reader_number.calls (s.size + 1) g s (i : Int) pv 41 (i : Int) (i : Int) 41 s (i : Int) w0 _ F.out.inn F.out.below N1.out).mono ?_); rintro e wb ⟨rfl, hi_, hb_, hk_⟩; (try clear gc0 gc1 gf1); replace F := Aside0.mk (F.out.on hi_ hb_ hk_); clear hi_ hb_ hk_; obtain ⟨gc0, gc1, gf1⟩ := F.out.cells) | ((with_reducible refine gate_store (t := 70) (p := 13) (v := .tmp 11) rfl ?_); obtain ⟨r0, r1, r2, r3, r4, r5⟩ := froz F.out.hP; obtain ⟨q0, q1, q2, q3, q4, q5⟩ := p6_cells F.out.hP; refine store_event (w1 := ?wwwc) ?hgwc rfl rfl ?hrwc ?_; (case hgwc => rfl); (case hrwc => go_simp; rfl); intro wc hw; clear r0 r1 r2 r3 r4 r5 q0 q1 q2 q3 q4 q5; (try clear gc0 gc1 gf1); have hF_ : PB w0 w wc g g5 s (i : Int) pv (i : Int) (i : Int) (-1) (-1) 0 0 := (by rw [hw]; exact ((F.out.set 0 (.int .i64 (i : Int)) rfl).set 1 (.int .i64 (i : Int)) rfl)); replace F := Aside0.mk hF_; clear hF_ hw; obtain ⟨gc0, gc1, gf1⟩ := F.out.cells))
  go_ret
  exact ⟨rfl, Afterkeep HR.out F.out.hG F.out.below F.out.hK⟩
set_option maxHeartbeats 4000000 in
set_option maxRecDepth 100000 in
theorem plain (s : ByteArray) (i : Nat) (pv : Value) (ps : List S72) (g : Nat) (w0 w : World) (hs : s.size ≤ 1048576) (hi : i ≤ s.size) (hl : ps.length ≤ 2) (hG : w.heap[g]? = some (.cells #[.string s, .int .i64 (i : Int), pv] 66 (0, 0))) (hge : w0.heap.size ≤ g) (hR : Kd.R k72 72 w w0.heap.size (fun _ => True) pv ps) (hB : Below w0.heap.size w0 w)
    (n1 : dg s i ≠ i)  :
    Calls Tryd.prog 41 #[.pointer (some ⟨g, 0, none⟩), .bool false] w fun e w' => e = .returned (.int .i64 0) ∧ After w0 w w' g s (dg s i : Int) pv (ps ++ [(⟨⟨(i : Int), (dg s i : Int)⟩, (-1), (-1), ⟨0, 0⟩⟩ : S72)]) := by
  have HR := Aside0.mk (Kd.R_types hR hG (g := g) (by decide))
  have HW := Aside0.mk hB.size
  have HG := Aside0.mk hG
  have HGE := Aside0.mk hge
  have HB := Aside0.mk hB
  have HK := Aside0.mk (KeepBut.refl w g none)
  have hu := Tryd.underlying72
  have hv := Tryd.underlying70
  have gc0 := (blk_cell HG.out 0).trans (show ((#[Value.string s, .int .i64 (i : Int), pv] : Array Value)[0]?) = some (Value.string s) from rfl)
  have gc1 := (blk_cell HG.out 1).trans (show ((#[Value.string s, .int .i64 (i : Int), pv] : Array Value)[1]?) = some (Value.int .i64 (i : Int)) from rfl)
  have gf1 := blk_frozen HG.out 1
  have N1 := Aside0.mk (number_ok 41 s pv hs i hi n1)
  have hd1 := dg_le hi
  clear hd1
  clear hG hge hR hB n1
  go_enter Tryd.func41, Tryd.ntmps41
  go_wp2_with (first | ((with_reducible refine gate_dst (N := 5) rfl ?_); refine box_event ?hg (N := 5) ?hd (cs := #[.int .i64 0, .int .i64 0, .int .i64 0, .int .i64 0, .int .i64 0, .int .i64 0]) (t := 72) ?hr ?_; (case hd => rfl); (case hg => rfl); (case hr => first | (go_simp; done) | (go_simp; rfl)); intro g5 hg5 w5 hbox hb; (try clear gc0 gc1 gf1); have F : Aside0 (PB w0 w w5 g g5 s (i : Int) pv 0 0 0 0 0 0) := ⟨⟨below_step HB.out hb, blk_below HG.out hb, hbox, HK.out.trans (KeepBut.of_below hb g none) (.inl rfl), (by rw [hg5]; exact Nat.ne_of_lt (blk_lt HG.out)), (by rw [hg5]; exact keep_size HK.out), HW.out, HGE.out⟩⟩; clear hb hbox hg5 HB HG HK; obtain ⟨gc0, gc1, gf1⟩ := F.out.cells) | ((with_reducible refine gate_store (t := 72) (p := 5) (v := .tmp 7) rfl ?_); obtain ⟨r0, r1, r2, r3, r4, r5⟩ := froz F.out.hP; obtain ⟨q0, q1, q2, q3, q4, q5⟩ := p6_cells F.out.hP; refine store_event (w1 := ?wwwa) ?hgwa rfl rfl ?hrwa ?_; (case hgwa => rfl); (case hrwa => go_simp; rfl); intro wa hw; clear r0 r1 r2 r3 r4 r5 q0 q1 q2 q3 q4 q5; (try clear gc0 gc1 gf1); have hF_ : PB w0 w wa g g5 s (i : Int) pv 0 0 (-1) (-1) 0 0 := (by rw [hw]; exact ((((((F.out.set 0 (.int .i64 0) rfl).set 1 (.int .i64 0) rfl).set 2 (.int .i64 (-1)) rfl).set 3 (.int .i64 (-1)) rfl).set 4 (.int .i64 0) rfl).set 5 (.int .i64 0) rfl)); replace F := Aside0.mk hF_; clear hF_ hw; obtain ⟨gc0, gc1, gf1⟩ := F.out.cells) | (go_at_call 46; (with_reducible refine (topo_reader_number.calls (s.size + 1) g s (i : Int) pv 41 (i : Int) (dg s i : Int) 0 s (dg s i : Int) w0 _ F.out.inn F.out.below N1.out).mono ?_); rintro e wb ⟨rfl, hi_, hb_, hk_⟩; (try clear gc0 gc1 gf1); replace F := Aside0.mk (F.out.on hi_ hb_ hk_); clear hi_ hb_ hk_; obtain ⟨gc0, gc1, gf1⟩ := F.out.cells) | ((with_reducible refine gate_store (t := 70) (p := 13) (v := .tmp 11) rfl ?_); obtain ⟨r0, r1, r2, r3, r4, r5⟩ := froz F.out.hP; obtain ⟨q0, q1, q2, q3, q4, q5⟩ := p6_cells F.out.hP; refine store_event (w1 := ?wwwc) ?hgwc rfl rfl ?hrwc ?_; (case hgwc => rfl); (case hrwc => go_simp; rfl); intro wc hw; clear r0 r1 r2 r3 r4 r5 q0 q1 q2 q3 q4 q5; (try clear gc0 gc1 gf1); have hF_ : PB w0 w wc g g5 s (dg s i : Int) pv (i : Int) (dg s i : Int) (-1) (-1) 0 0 := (by rw [hw]; exact ((F.out.set 0 (.int .i64 (i : Int)) rfl).set 1 (.int .i64 (dg s i : Int)) rfl)); replace F := Aside0.mk hF_; clear hF_ hw; obtain ⟨gc0, gc1, gf1⟩ := F.out.cells))
  (try clear gc0 gc1 gf1)
  have HG := Aside0.mk F.out.hG
  have HP := Aside0.mk F.out.hP
  have HK := Aside0.mk F.out.hK
  have HB := Aside0.mk F.out.below
  have NE := Aside0.mk F.out.ne
  have G5 := Aside0.mk F.out.G5
  clear F
  have HR2 := Aside0.mk (Kd.R_drew (Kd.R_mono (ok' := fun k => True ∧ k ≠ g ∧ k ≠ g5) (Kd.R_keep (Kd.R_bound HR.out) HK.out (fun _ hk => hk.1.2)) (fun k hk => ⟨trivial, hk.1.2, by have := hk.2.2.1; have := G5.out; omega⟩)))
  refine start_ (n := 11) (S := fun w' => w'.cell? ⟨g, 2, none⟩ = some pv ∧ w'.cell? ⟨g5, 0, none⟩ = some (.int .i64 (i : Int)) ∧ w'.cell? ⟨g5, 1, none⟩ = some (.int .i64 (dg s i : Int)) ∧ w'.cell? ⟨g5, 2, none⟩ = some (.int .i64 (-1)) ∧ w'.cell? ⟨g5, 3, none⟩ = some (.int .i64 (-1)) ∧ w'.cell? ⟨g5, 4, none⟩ = some (.int .i64 0) ∧ w'.cell? ⟨g5, 5, none⟩ = some (.int .i64 0)) (ds := [10]) #[false, false, false, false, false, false, false, false, false, false, false] (by kernel_rfl) rfl rfl ⟨(blk_cell HG.out 2).trans rfl, (blk_cell HP.out 0).trans rfl, (blk_cell HP.out 1).trans rfl, (blk_cell HP.out 2).trans rfl, (blk_cell HP.out 3).trans rfl, (blk_cell HP.out 4).trans rfl, (blk_cell HP.out 5).trans rfl⟩ (fun hHeld => ?_)
  have HG' := Aside0.mk (blk_drew HG.out)
  have HP' := Aside0.mk (blk_drew HP.out)
  have HK' := Aside0.mk (keep_drew HK.out)
  have HB' := Aside0.mk (below_drew1 HB.out)
  clear HG HP HK HB
  generalize wc.drew = wx at HG' HP' HK' HB' HR2 hHeld ⊢
  have HG := HG'
  have HP := HP'
  have HK := HK'
  have HB := HB'
  clear HG' HP' HK' HB'
  have GLT := Aside0.mk (blk_lt HG.out)
  have HKS := Aside0.mk (show w.heap.size ≤ wx.heap.size from HK.out.1)
  refine pure_ (i := 0) (N := (some 60)) (v := ?_) (a' := ?_) #[true, false, false, false, false, false, false, false, false, false, false] rfl rfl (by kernel_rfl) (fun _ _ _ h => h) (Or.inl ⟨by rfl, ?_⟩) ?_ ?_
  rotate_left
  · intro w'
    go_simp
    with_reducible rfl
  rotate_left
  · simp only [Act.put, List.setIfInBounds_toArray, List.set_cons_zero, List.set_cons_succ, i64_w, i32_w]
    rfl
  refine pure_ (i := 1) (N := (some 61)) (v := ?_) (a' := ?_) #[true, true, false, false, false, false, false, false, false, false, false] rfl rfl (by kernel_rfl) (fun _ _ _ h => h) (Or.inl ⟨by rfl, ?_⟩) ?_ ?_
  rotate_left
  · intro w'
    go_simp
    with_reducible rfl
  rotate_left
  · simp only [Act.put, List.setIfInBounds_toArray, List.set_cons_zero, List.set_cons_succ, i64_w, i32_w]
    rfl
  refine pure_ (i := 2) (N := (some 62)) (v := ?_) (a' := ?_) #[true, true, true, false, false, false, false, false, false, false, false] rfl rfl (by kernel_rfl) (fun _ _ _ h => h) (Or.inl ⟨by rfl, ?_⟩) ?_ ?_
  rotate_left
  · intro w'
    go_simp
    with_reducible rfl
  rotate_left
  · simp only [Act.put, List.setIfInBounds_toArray, List.set_cons_zero, List.set_cons_succ, i64_w, i32_w]
    rfl
  refine pure_ (i := 3) (N := (some 63)) (v := ?_) (a' := ?_) #[true, true, true, true, false, false, false, false, false, false, false] rfl rfl (by kernel_rfl) (fun _ _ _ h => h) (Or.inl ⟨by rfl, ?_⟩) ?_ ?_
  rotate_left
  · intro w'
    go_simp
    with_reducible rfl
  rotate_left
  · simp only [Act.put, List.setIfInBounds_toArray, List.set_cons_zero, List.set_cons_succ, i64_w, i32_w]
    rfl
  refine take_ (i := 4) (N := (some 64)) (v := ?_) (a' := ?_) #[true, true, true, true, true, false, false, false, false, false, false] rfl rfl (by kernel_rfl) (fun _ _ _ h => h) (Or.inl ⟨by rfl, ?_⟩) hHeld ?_ ?_
  rotate_left
  · rintro w' ⟨s0, s1, s2, s3, s4, s5, s6⟩
    go_simp
    with_reducible rfl
  rotate_left
  · simp only [Act.put, List.setIfInBounds_toArray, List.set_cons_zero, List.set_cons_succ, i64_w, i32_w]
    rfl
  refine take_ (i := 5) (N := (some 65)) (v := ?_) (a' := ?_) #[true, true, true, true, true, true, false, false, false, false, false] rfl rfl (by kernel_rfl) (fun _ _ _ h => h) (Or.inl ⟨by rfl, ?_⟩) hHeld ?_ ?_
  rotate_left
  · rintro w' ⟨s0, s1, s2, s3, s4, s5, s6⟩
    go_simp
    with_reducible rfl
  rotate_left
  · simp only [Act.put, List.setIfInBounds_toArray, List.set_cons_zero, List.set_cons_succ, i64_w, i32_w]
    rfl
  have GLP := Aside0.mk (blk_lt HP.out)
  refine one_ (i := 6) (N := (some 66)) #[true, true, true, true, true, true, true, false, false, false, false] rfl rfl (by kernel_rfl) (by decide) (fun K hK => ?_)
  refine value_ (v := .slice (some ⟨wx.heap.size, 0, none⟩) 1 1) (w1 := wx.alloc (.cells #[.int .i64 (i : Int), .int .i64 (dg s i : Int), .int .i64 (-1), .int .i64 (-1), .int .i64 0, .int .i64 0] 72)) (by rfl) rfl ?_ ?_
  · first | (go_simp; done) | (go_simp; rfl)
  refine hK.out _ _ ⟨(World.cell?_alloc_lt _ _ _ (World.block_lt_of_cell? _ _ hHeld.1)).trans hHeld.1, (World.cell?_alloc_lt _ _ _ (World.block_lt_of_cell? _ _ hHeld.2.1)).trans hHeld.2.1, (World.cell?_alloc_lt _ _ _ (World.block_lt_of_cell? _ _ hHeld.2.2.1)).trans hHeld.2.2.1, (World.cell?_alloc_lt _ _ _ (World.block_lt_of_cell? _ _ hHeld.2.2.2.1)).trans hHeld.2.2.2.1, (World.cell?_alloc_lt _ _ _ (World.block_lt_of_cell? _ _ hHeld.2.2.2.2.1)).trans hHeld.2.2.2.2.1, (World.cell?_alloc_lt _ _ _ (World.block_lt_of_cell? _ _ hHeld.2.2.2.2.2.1)).trans hHeld.2.2.2.2.2.1, (World.cell?_alloc_lt _ _ _ (World.block_lt_of_cell? _ _ hHeld.2.2.2.2.2.2)).trans hHeld.2.2.2.2.2.2⟩ (fun hHeld => ?_)
  clear hK K
  refine one_ (i := 7) (N := (some 67)) #[true, true, true, true, true, true, true, true, false, false, false] rfl rfl (by kernel_rfl) (by decide) (fun K hK => ?_)
  refine Kd.R_append_step k72 (w0 := w0) w0.heap.size (by rfl) (.tmp 64) (.tmp 66) 64 72 z72 48 rfl Tryd.underlying64 info72 rfl (by decide) (by omega) pv ps (⟨⟨(i : Int), (dg s i : Int)⟩, (-1), (-1), ⟨0, 0⟩⟩ : S72) [.int .i64 (i : Int), .int .i64 (dg s i : Int), .int .i64 (-1), .int .i64 (-1), .int .i64 0, .int .i64 0] (fun k => True ∧ k ≠ g ∧ k ≠ g5) (fun _ => False) rfl ?_ ?_ (fun _ hk => hk.elim) ?_ ?_ ?_ ?_ ?_ ?_
  · rfl
  · exact k72_mkM _ _ _ (⟨⟨(i : Int), (dg s i : Int)⟩, (-1), (-1), ⟨0, 0⟩⟩ : S72)
  · exact fun k hk => ⟨trivial, by have := GLT.out; omega, by have := GLP.out; omega⟩
  · exact HR2.out
  · exact HB.out
  · exact HB.out.size
  · omega
  intro pv1 w1 hr1 hb1 hg1 hat1
  have nG := Kd.R_away (g := g) HR2.out (fun _ hk => hk.2.1)
  have nP := Kd.R_away (g := g5) HR2.out (fun _ hk => hk.2.2)
  refine hK.out _ _ ⟨cell_grown hg1 (cell_unalloc hHeld.1 GLT.out) nG, cell_grown hg1 (cell_unalloc hHeld.2.1 GLP.out) nP, cell_grown hg1 (cell_unalloc hHeld.2.2.1 GLP.out) nP, cell_grown hg1 (cell_unalloc hHeld.2.2.2.1 GLP.out) nP, cell_grown hg1 (cell_unalloc hHeld.2.2.2.2.1 GLP.out) nP, cell_grown hg1 (cell_unalloc hHeld.2.2.2.2.2.1 GLP.out) nP, cell_grown hg1 (cell_unalloc hHeld.2.2.2.2.2.2 GLP.out) nP⟩ (fun hHeld => ?_)
  clear hK K hHeld
  have HR3 := Aside0.mk hr1
  have HG3 := Aside0.mk (blk_grown HG.out hg1 nG)
  have HAT := Aside0.mk hat1
  have HK3 := Aside0.mk (show KeepBut w w1 g pv.ownBlock from (show KeepBut w wx g pv.ownBlock from ⟨HK.out.1, fun k h1 h2 _ => HK.out.2 k h1 h2 (by simp)⟩).trans (KeepBut.of_grown hg1 g) (.inl rfl))
  have HB3 := Aside0.mk hb1
  clear hr1 hb1 hg1 hat1 nG nP HR2 HG HK HB HR HP
  refine pure_ (i := 8) (N := (some 68)) (v := ?_) (a' := ?_) #[true, true, true, true, true, true, true, true, true, false, false] rfl rfl (by kernel_rfl) (fun _ _ _ h => h) (Or.inl ⟨by rfl, ?_⟩) ?_ ?_
  rotate_left
  · intro w'
    go_simp
    with_reducible rfl
  rotate_left
  · simp only [Act.put, List.setIfInBounds_toArray, List.set_cons_zero, List.set_cons_succ, i64_w, i32_w]
    rfl
  refine pure_ (i := 9) (N := (some 69)) (v := ?_) (a' := ?_) #[true, true, true, true, true, true, true, true, true, true, false] rfl rfl (by kernel_rfl) (fun _ _ _ h => h) (Or.inl ⟨by rfl, ?_⟩) ?_ ?_
  rotate_left
  · intro w'
    go_simp
    with_reducible rfl
  rotate_left
  · simp only [Act.put, List.setIfInBounds_toArray, List.set_cons_zero, List.set_cons_succ, i64_w, i32_w]
    rfl
  refine last_ (i := 10) (N := none) #[true, true, true, true, true, true, true, true, true, true, true] rfl rfl (by kernel_rfl) (by decide) (fun K hK => ?_)
  have gc2 := (blk_cell HG3.out 2).trans (show ((#[Value.string s, .int .i64 (dg s i : Int), pv] : Array Value)[2]?) = some pv from rfl)
  have gf2 := blk_frozen HG3.out 2
  refine skip_ (w1 := w1.setCell ⟨g, 2, none⟩ pv1) (by rfl) rfl ?_ ?_
  · obtain ⟨A1, c1, rfl⟩ := Kd.R_slice HR3.out; first | (go_simp; done) | (go_simp; rfl)
  refine hK.out _ _ ?_
  clear hK K gc2 gf2
  refine done_ (by kernel_rfl) ?_
  try go_wp2
  go_ret
  refine ⟨rfl, pv1, blk_put (cs := #[.string s, .int .i64 (dg s i : Int), pv]) HG3.out 2 pv1 rfl, ?_, below_set HB3.out HGE.out, KeepBut.set_ HK3.out 2 _, ?_⟩
  · exact Kd.R_mono (Kd.R_far (p := ⟨g, 2, none⟩) HR3.out (fun _ hk => hk.2.1) _) (fun _ _ => trivial)
  · rcases HAT.out with h | ⟨b, h1, h2⟩
    · exact .inl h
    · exact .inr ⟨b, h1, Nat.le_trans HKS.out h2⟩
set_option maxHeartbeats 4000000 in
set_option maxRecDepth 100000 in
theorem t00 (s : ByteArray) (i : Nat) (pv : Value) (ps : List S72) (g : Nat) (w0 w : World) (hs : s.size ≤ 1048576) (hi : i ≤ s.size) (hl : ps.length ≤ 2) (hG : w.heap[g]? = some (.cells #[.string s, .int .i64 (i : Int), pv] 66 (0, 0))) (hge : w0.heap.size ≤ g) (hR : Kd.R k72 72 w w0.heap.size (fun _ => True) pv ps) (hB : Below w0.heap.size w0 w)
    (n1 : dg s i ≠ i) (n2 : nxt s (dg s i) [42] = false) (n3 : nxt s (dg s i) [43, 45] = false) :
    Calls Tryd.prog 41 #[.pointer (some ⟨g, 0, none⟩), .bool true] w fun e w' => e = .returned (.int .i64 0) ∧ After w0 w w' g s (dg s i : Int) pv (ps ++ [(⟨⟨(i : Int), (dg s i : Int)⟩, (-1), (-1), ⟨0, 0⟩⟩ : S72)]) := by
  have HR := Aside0.mk (Kd.R_types hR hG (g := g) (by decide))
  have HW := Aside0.mk hB.size
  have HG := Aside0.mk hG
  have HGE := Aside0.mk hge
  have HB := Aside0.mk hB
  have HK := Aside0.mk (KeepBut.refl w g none)
  have hu := Tryd.underlying72
  have hv := Tryd.underlying70
  have gc0 := (blk_cell HG.out 0).trans (show ((#[Value.string s, .int .i64 (i : Int), pv] : Array Value)[0]?) = some (Value.string s) from rfl)
  have gc1 := (blk_cell HG.out 1).trans (show ((#[Value.string s, .int .i64 (i : Int), pv] : Array Value)[1]?) = some (Value.int .i64 (i : Int)) from rfl)
  have gf1 := blk_frozen HG.out 1
  have N1 := Aside0.mk (number_ok 41 s pv hs i hi n1)
  have hd1 := dg_le hi
  have N2 := Aside0.mk (n2 ▸ next_star s pv (dg s i))
  have N3 : Aside0 (topo_reader_next.f s (dg s i : Int) pv ⟨#[43, 45]⟩ = some (false, s, (dg s i : Int))) := ⟨by have h_ := next_sign s pv (dg s i); rw [n3] at h_; exact h_⟩
  clear hd1
  clear hG hge hR hB n1 n2 n3
  go_enter Tryd.func41, Tryd.ntmps41
  go_wp2_with (first | ((with_reducible refine gate_dst (N := 5) rfl ?_); refine box_event ?hg (N := 5) ?hd (cs := #[.int .i64 0, .int .i64 0, .int .i64 0, .int .i64 0, .int .i64 0, .int .i64 0]) (t := 72) ?hr ?_; (case hd => rfl); (case hg => rfl); (case hr => first | (go_simp; done) | (go_simp; rfl)); intro g5 hg5 w5 hbox hb; (try clear gc0 gc1 gf1); have F : Aside0 (PB w0 w w5 g g5 s (i : Int) pv 0 0 0 0 0 0) := ⟨⟨below_step HB.out hb, blk_below HG.out hb, hbox, HK.out.trans (KeepBut.of_below hb g none) (.inl rfl), (by rw [hg5]; exact Nat.ne_of_lt (blk_lt HG.out)), (by rw [hg5]; exact keep_size HK.out), HW.out, HGE.out⟩⟩; clear hb hbox hg5 HB HG HK; obtain ⟨gc0, gc1, gf1⟩ := F.out.cells) | ((with_reducible refine gate_store (t := 72) (p := 5) (v := .tmp 7) rfl ?_); obtain ⟨r0, r1, r2, r3, r4, r5⟩ := froz F.out.hP; obtain ⟨q0, q1, q2, q3, q4, q5⟩ := p6_cells F.out.hP; refine store_event (w1 := ?wwwa) ?hgwa rfl rfl ?hrwa ?_; (case hgwa => rfl); (case hrwa => go_simp; rfl); intro wa hw; clear r0 r1 r2 r3 r4 r5 q0 q1 q2 q3 q4 q5; (try clear gc0 gc1 gf1); have hF_ : PB w0 w wa g g5 s (i : Int) pv 0 0 (-1) (-1) 0 0 := (by rw [hw]; exact ((((((F.out.set 0 (.int .i64 0) rfl).set 1 (.int .i64 0) rfl).set 2 (.int .i64 (-1)) rfl).set 3 (.int .i64 (-1)) rfl).set 4 (.int .i64 0) rfl).set 5 (.int .i64 0) rfl)); replace F := Aside0.mk hF_; clear hF_ hw; obtain ⟨gc0, gc1, gf1⟩ := F.out.cells) | (go_at_call 46; (with_reducible refine (topo_reader_number.calls (s.size + 1) g s (i : Int) pv 41 (i : Int) (dg s i : Int) 0 s (dg s i : Int) w0 _ F.out.inn F.out.below N1.out).mono ?_); rintro e wb ⟨rfl, hi_, hb_, hk_⟩; (try clear gc0 gc1 gf1); replace F := Aside0.mk (F.out.on hi_ hb_ hk_); clear hi_ hb_ hk_; obtain ⟨gc0, gc1, gf1⟩ := F.out.cells) | ((with_reducible refine gate_store (t := 70) (p := 13) (v := .tmp 11) rfl ?_); obtain ⟨r0, r1, r2, r3, r4, r5⟩ := froz F.out.hP; obtain ⟨q0, q1, q2, q3, q4, q5⟩ := p6_cells F.out.hP; refine store_event (w1 := ?wwwc) ?hgwc rfl rfl ?hrwc ?_; (case hgwc => rfl); (case hrwc => go_simp; rfl); intro wc hw; clear r0 r1 r2 r3 r4 r5 q0 q1 q2 q3 q4 q5; (try clear gc0 gc1 gf1); have hF_ : PB w0 w wc g g5 s (dg s i : Int) pv (i : Int) (dg s i : Int) (-1) (-1) 0 0 := (by rw [hw]; exact ((F.out.set 0 (.int .i64 (i : Int)) rfl).set 1 (.int .i64 (dg s i : Int)) rfl)); replace F := Aside0.mk hF_; clear hF_ hw; obtain ⟨gc0, gc1, gf1⟩ := F.out.cells) | (go_at_call 42; (with_reducible refine (topo_reader_next.calls g s (dg s i : Int) pv ⟨#[42]⟩ false s (dg s i : Int) w0 _ F.out.inn F.out.below N2.out).mono ?_); rintro e wd ⟨rfl, hi_, hb_, hk_⟩; (try clear gc0 gc1 gf1); replace F := Aside0.mk (F.out.on hi_ hb_ hk_); clear hi_ hb_ hk_; obtain ⟨gc0, gc1, gf1⟩ := F.out.cells) | (go_at_call 42; (with_reducible refine (topo_reader_next.calls g s (dg s i : Int) pv ⟨#[43, 45]⟩ false s (dg s i : Int) w0 _ F.out.inn F.out.below N3.out).mono ?_); rintro e wg ⟨rfl, hi_, hb_, hk_⟩; (try clear gc0 gc1 gf1); replace F := Aside0.mk (F.out.on hi_ hb_ hk_); clear hi_ hb_ hk_; obtain ⟨gc0, gc1, gf1⟩ := F.out.cells))
  (try clear gc0 gc1 gf1)
  have HG := Aside0.mk F.out.hG
  have HP := Aside0.mk F.out.hP
  have HK := Aside0.mk F.out.hK
  have HB := Aside0.mk F.out.below
  have NE := Aside0.mk F.out.ne
  have G5 := Aside0.mk F.out.G5
  clear F
  have HR2 := Aside0.mk (Kd.R_drew (Kd.R_mono (ok' := fun k => True ∧ k ≠ g ∧ k ≠ g5) (Kd.R_keep (Kd.R_bound HR.out) HK.out (fun _ hk => hk.1.2)) (fun k hk => ⟨trivial, hk.1.2, by have := hk.2.2.1; have := G5.out; omega⟩)))
  refine start_ (n := 11) (S := fun w' => w'.cell? ⟨g, 2, none⟩ = some pv ∧ w'.cell? ⟨g5, 0, none⟩ = some (.int .i64 (i : Int)) ∧ w'.cell? ⟨g5, 1, none⟩ = some (.int .i64 (dg s i : Int)) ∧ w'.cell? ⟨g5, 2, none⟩ = some (.int .i64 (-1)) ∧ w'.cell? ⟨g5, 3, none⟩ = some (.int .i64 (-1)) ∧ w'.cell? ⟨g5, 4, none⟩ = some (.int .i64 0) ∧ w'.cell? ⟨g5, 5, none⟩ = some (.int .i64 0)) (ds := [10]) #[false, false, false, false, false, false, false, false, false, false, false] (by kernel_rfl) rfl rfl ⟨(blk_cell HG.out 2).trans rfl, (blk_cell HP.out 0).trans rfl, (blk_cell HP.out 1).trans rfl, (blk_cell HP.out 2).trans rfl, (blk_cell HP.out 3).trans rfl, (blk_cell HP.out 4).trans rfl, (blk_cell HP.out 5).trans rfl⟩ (fun hHeld => ?_)
  have HG' := Aside0.mk (blk_drew HG.out)
  have HP' := Aside0.mk (blk_drew HP.out)
  have HK' := Aside0.mk (keep_drew HK.out)
  have HB' := Aside0.mk (below_drew1 HB.out)
  clear HG HP HK HB
  generalize wg.drew = wx at HG' HP' HK' HB' HR2 hHeld ⊢
  have HG := HG'
  have HP := HP'
  have HK := HK'
  have HB := HB'
  clear HG' HP' HK' HB'
  have GLT := Aside0.mk (blk_lt HG.out)
  have HKS := Aside0.mk (show w.heap.size ≤ wx.heap.size from HK.out.1)
  refine pure_ (i := 0) (N := (some 60)) (v := ?_) (a' := ?_) #[true, false, false, false, false, false, false, false, false, false, false] rfl rfl (by kernel_rfl) (fun _ _ _ h => h) (Or.inl ⟨by rfl, ?_⟩) ?_ ?_
  rotate_left
  · intro w'
    go_simp
    with_reducible rfl
  rotate_left
  · simp only [Act.put, List.setIfInBounds_toArray, List.set_cons_zero, List.set_cons_succ, i64_w, i32_w]
    rfl
  refine pure_ (i := 1) (N := (some 61)) (v := ?_) (a' := ?_) #[true, true, false, false, false, false, false, false, false, false, false] rfl rfl (by kernel_rfl) (fun _ _ _ h => h) (Or.inl ⟨by rfl, ?_⟩) ?_ ?_
  rotate_left
  · intro w'
    go_simp
    with_reducible rfl
  rotate_left
  · simp only [Act.put, List.setIfInBounds_toArray, List.set_cons_zero, List.set_cons_succ, i64_w, i32_w]
    rfl
  refine pure_ (i := 2) (N := (some 62)) (v := ?_) (a' := ?_) #[true, true, true, false, false, false, false, false, false, false, false] rfl rfl (by kernel_rfl) (fun _ _ _ h => h) (Or.inl ⟨by rfl, ?_⟩) ?_ ?_
  rotate_left
  · intro w'
    go_simp
    with_reducible rfl
  rotate_left
  · simp only [Act.put, List.setIfInBounds_toArray, List.set_cons_zero, List.set_cons_succ, i64_w, i32_w]
    rfl
  refine pure_ (i := 3) (N := (some 63)) (v := ?_) (a' := ?_) #[true, true, true, true, false, false, false, false, false, false, false] rfl rfl (by kernel_rfl) (fun _ _ _ h => h) (Or.inl ⟨by rfl, ?_⟩) ?_ ?_
  rotate_left
  · intro w'
    go_simp
    with_reducible rfl
  rotate_left
  · simp only [Act.put, List.setIfInBounds_toArray, List.set_cons_zero, List.set_cons_succ, i64_w, i32_w]
    rfl
  refine take_ (i := 4) (N := (some 64)) (v := ?_) (a' := ?_) #[true, true, true, true, true, false, false, false, false, false, false] rfl rfl (by kernel_rfl) (fun _ _ _ h => h) (Or.inl ⟨by rfl, ?_⟩) hHeld ?_ ?_
  rotate_left
  · rintro w' ⟨s0, s1, s2, s3, s4, s5, s6⟩
    go_simp
    with_reducible rfl
  rotate_left
  · simp only [Act.put, List.setIfInBounds_toArray, List.set_cons_zero, List.set_cons_succ, i64_w, i32_w]
    rfl
  refine take_ (i := 5) (N := (some 65)) (v := ?_) (a' := ?_) #[true, true, true, true, true, true, false, false, false, false, false] rfl rfl (by kernel_rfl) (fun _ _ _ h => h) (Or.inl ⟨by rfl, ?_⟩) hHeld ?_ ?_
  rotate_left
  · rintro w' ⟨s0, s1, s2, s3, s4, s5, s6⟩
    go_simp
    with_reducible rfl
  rotate_left
  · simp only [Act.put, List.setIfInBounds_toArray, List.set_cons_zero, List.set_cons_succ, i64_w, i32_w]
    rfl
  have GLP := Aside0.mk (blk_lt HP.out)
  refine one_ (i := 6) (N := (some 66)) #[true, true, true, true, true, true, true, false, false, false, false] rfl rfl (by kernel_rfl) (by decide) (fun K hK => ?_)
  refine value_ (v := .slice (some ⟨wx.heap.size, 0, none⟩) 1 1) (w1 := wx.alloc (.cells #[.int .i64 (i : Int), .int .i64 (dg s i : Int), .int .i64 (-1), .int .i64 (-1), .int .i64 0, .int .i64 0] 72)) (by rfl) rfl ?_ ?_
  · first | (go_simp; done) | (go_simp; rfl)
  refine hK.out _ _ ⟨(World.cell?_alloc_lt _ _ _ (World.block_lt_of_cell? _ _ hHeld.1)).trans hHeld.1, (World.cell?_alloc_lt _ _ _ (World.block_lt_of_cell? _ _ hHeld.2.1)).trans hHeld.2.1, (World.cell?_alloc_lt _ _ _ (World.block_lt_of_cell? _ _ hHeld.2.2.1)).trans hHeld.2.2.1, (World.cell?_alloc_lt _ _ _ (World.block_lt_of_cell? _ _ hHeld.2.2.2.1)).trans hHeld.2.2.2.1, (World.cell?_alloc_lt _ _ _ (World.block_lt_of_cell? _ _ hHeld.2.2.2.2.1)).trans hHeld.2.2.2.2.1, (World.cell?_alloc_lt _ _ _ (World.block_lt_of_cell? _ _ hHeld.2.2.2.2.2.1)).trans hHeld.2.2.2.2.2.1, (World.cell?_alloc_lt _ _ _ (World.block_lt_of_cell? _ _ hHeld.2.2.2.2.2.2)).trans hHeld.2.2.2.2.2.2⟩ (fun hHeld => ?_)
  clear hK K
  refine one_ (i := 7) (N := (some 67)) #[true, true, true, true, true, true, true, true, false, false, false] rfl rfl (by kernel_rfl) (by decide) (fun K hK => ?_)
  refine Kd.R_append_step k72 (w0 := w0) w0.heap.size (by rfl) (.tmp 64) (.tmp 66) 64 72 z72 48 rfl Tryd.underlying64 info72 rfl (by decide) (by omega) pv ps (⟨⟨(i : Int), (dg s i : Int)⟩, (-1), (-1), ⟨0, 0⟩⟩ : S72) [.int .i64 (i : Int), .int .i64 (dg s i : Int), .int .i64 (-1), .int .i64 (-1), .int .i64 0, .int .i64 0] (fun k => True ∧ k ≠ g ∧ k ≠ g5) (fun _ => False) rfl ?_ ?_ (fun _ hk => hk.elim) ?_ ?_ ?_ ?_ ?_ ?_
  · rfl
  · exact k72_mkM _ _ _ (⟨⟨(i : Int), (dg s i : Int)⟩, (-1), (-1), ⟨0, 0⟩⟩ : S72)
  · exact fun k hk => ⟨trivial, by have := GLT.out; omega, by have := GLP.out; omega⟩
  · exact HR2.out
  · exact HB.out
  · exact HB.out.size
  · omega
  intro pv1 w1 hr1 hb1 hg1 hat1
  have nG := Kd.R_away (g := g) HR2.out (fun _ hk => hk.2.1)
  have nP := Kd.R_away (g := g5) HR2.out (fun _ hk => hk.2.2)
  refine hK.out _ _ ⟨cell_grown hg1 (cell_unalloc hHeld.1 GLT.out) nG, cell_grown hg1 (cell_unalloc hHeld.2.1 GLP.out) nP, cell_grown hg1 (cell_unalloc hHeld.2.2.1 GLP.out) nP, cell_grown hg1 (cell_unalloc hHeld.2.2.2.1 GLP.out) nP, cell_grown hg1 (cell_unalloc hHeld.2.2.2.2.1 GLP.out) nP, cell_grown hg1 (cell_unalloc hHeld.2.2.2.2.2.1 GLP.out) nP, cell_grown hg1 (cell_unalloc hHeld.2.2.2.2.2.2 GLP.out) nP⟩ (fun hHeld => ?_)
  clear hK K hHeld
  have HR3 := Aside0.mk hr1
  have HG3 := Aside0.mk (blk_grown HG.out hg1 nG)
  have HAT := Aside0.mk hat1
  have HK3 := Aside0.mk (show KeepBut w w1 g pv.ownBlock from (show KeepBut w wx g pv.ownBlock from ⟨HK.out.1, fun k h1 h2 _ => HK.out.2 k h1 h2 (by simp)⟩).trans (KeepBut.of_grown hg1 g) (.inl rfl))
  have HB3 := Aside0.mk hb1
  clear hr1 hb1 hg1 hat1 nG nP HR2 HG HK HB HR HP
  refine pure_ (i := 8) (N := (some 68)) (v := ?_) (a' := ?_) #[true, true, true, true, true, true, true, true, true, false, false] rfl rfl (by kernel_rfl) (fun _ _ _ h => h) (Or.inl ⟨by rfl, ?_⟩) ?_ ?_
  rotate_left
  · intro w'
    go_simp
    with_reducible rfl
  rotate_left
  · simp only [Act.put, List.setIfInBounds_toArray, List.set_cons_zero, List.set_cons_succ, i64_w, i32_w]
    rfl
  refine pure_ (i := 9) (N := (some 69)) (v := ?_) (a' := ?_) #[true, true, true, true, true, true, true, true, true, true, false] rfl rfl (by kernel_rfl) (fun _ _ _ h => h) (Or.inl ⟨by rfl, ?_⟩) ?_ ?_
  rotate_left
  · intro w'
    go_simp
    with_reducible rfl
  rotate_left
  · simp only [Act.put, List.setIfInBounds_toArray, List.set_cons_zero, List.set_cons_succ, i64_w, i32_w]
    rfl
  refine last_ (i := 10) (N := none) #[true, true, true, true, true, true, true, true, true, true, true] rfl rfl (by kernel_rfl) (by decide) (fun K hK => ?_)
  have gc2 := (blk_cell HG3.out 2).trans (show ((#[Value.string s, .int .i64 (dg s i : Int), pv] : Array Value)[2]?) = some pv from rfl)
  have gf2 := blk_frozen HG3.out 2
  refine skip_ (w1 := w1.setCell ⟨g, 2, none⟩ pv1) (by rfl) rfl ?_ ?_
  · obtain ⟨A1, c1, rfl⟩ := Kd.R_slice HR3.out; first | (go_simp; done) | (go_simp; rfl)
  refine hK.out _ _ ?_
  clear hK K gc2 gf2
  refine done_ (by kernel_rfl) ?_
  try go_wp2
  go_ret
  refine ⟨rfl, pv1, blk_put (cs := #[.string s, .int .i64 (dg s i : Int), pv]) HG3.out 2 pv1 rfl, ?_, below_set HB3.out HGE.out, KeepBut.set_ HK3.out 2 _, ?_⟩
  · exact Kd.R_mono (Kd.R_far (p := ⟨g, 2, none⟩) HR3.out (fun _ hk => hk.2.1) _) (fun _ _ => trivial)
  · rcases HAT.out with h | ⟨b, h1, h2⟩
    · exact .inl h
    · exact .inr ⟨b, h1, Nat.le_trans HKS.out h2⟩
set_option maxHeartbeats 4000000 in
set_option maxRecDepth 100000 in
theorem t10 (s : ByteArray) (i : Nat) (pv : Value) (ps : List S72) (g : Nat) (w0 w : World) (hs : s.size ≤ 1048576) (hi : i ≤ s.size) (hl : ps.length ≤ 2) (hG : w.heap[g]? = some (.cells #[.string s, .int .i64 (i : Int), pv] 66 (0, 0))) (hge : w0.heap.size ≤ g) (hR : Kd.R k72 72 w w0.heap.size (fun _ => True) pv ps) (hB : Below w0.heap.size w0 w)
    (n1 : dg s i ≠ i) (n2 : nxt s (dg s i) [42] = true) (n3 : nxt s (dg s i + 1) [43, 45] = false) :
    Calls Tryd.prog 41 #[.pointer (some ⟨g, 0, none⟩), .bool true] w fun e w' => e = .returned (.int .i64 0) ∧ After w0 w w' g s ((dg s i : Int) + 1) pv (ps ++ [(⟨⟨(i : Int), (dg s i : Int)⟩, (dg s i : Int), (-1), ⟨0, 0⟩⟩ : S72)]) := by
  have HR := Aside0.mk (Kd.R_types hR hG (g := g) (by decide))
  have HW := Aside0.mk hB.size
  have HG := Aside0.mk hG
  have HGE := Aside0.mk hge
  have HB := Aside0.mk hB
  have HK := Aside0.mk (KeepBut.refl w g none)
  have hu := Tryd.underlying72
  have hv := Tryd.underlying70
  have gc0 := (blk_cell HG.out 0).trans (show ((#[Value.string s, .int .i64 (i : Int), pv] : Array Value)[0]?) = some (Value.string s) from rfl)
  have gc1 := (blk_cell HG.out 1).trans (show ((#[Value.string s, .int .i64 (i : Int), pv] : Array Value)[1]?) = some (Value.int .i64 (i : Int)) from rfl)
  have gf1 := blk_frozen HG.out 1
  have N1 := Aside0.mk (number_ok 41 s pv hs i hi n1)
  have hd1 := dg_le hi
  have N2 := Aside0.mk (n2 ▸ next_star s pv (dg s i))
  have hl1 : dg s i < s.size := by unfold nxt at n2; simp only [Bool.and_eq_true, decide_eq_true_eq] at n2; exact n2.1
  have HWS := Aside0.mk (show wrap64 ((dg s i : Int) + 1) = (dg s i : Int) + 1 by unfold wrap64; omega)
  have N3 : Aside0 (topo_reader_next.f s ((dg s i : Int) + 1) pv ⟨#[43, 45]⟩ = some (false, s, ((dg s i : Int) + 1))) := ⟨by have h_ := next_sign s pv (dg s i + 1); rw [n3] at h_; exact h_⟩
  clear hd1
  clear hl1
  clear hG hge hR hB n1 n2 n3
  go_enter Tryd.func41, Tryd.ntmps41
  go_wp2_with (first | ((with_reducible refine gate_dst (N := 5) rfl ?_); refine box_event ?hg (N := 5) ?hd (cs := #[.int .i64 0, .int .i64 0, .int .i64 0, .int .i64 0, .int .i64 0, .int .i64 0]) (t := 72) ?hr ?_; (case hd => rfl); (case hg => rfl); (case hr => first | (go_simp; done) | (go_simp; rfl)); intro g5 hg5 w5 hbox hb; (try clear gc0 gc1 gf1); have F : Aside0 (PB w0 w w5 g g5 s (i : Int) pv 0 0 0 0 0 0) := ⟨⟨below_step HB.out hb, blk_below HG.out hb, hbox, HK.out.trans (KeepBut.of_below hb g none) (.inl rfl), (by rw [hg5]; exact Nat.ne_of_lt (blk_lt HG.out)), (by rw [hg5]; exact keep_size HK.out), HW.out, HGE.out⟩⟩; clear hb hbox hg5 HB HG HK; obtain ⟨gc0, gc1, gf1⟩ := F.out.cells) | ((with_reducible refine gate_store (t := 72) (p := 5) (v := .tmp 7) rfl ?_); obtain ⟨r0, r1, r2, r3, r4, r5⟩ := froz F.out.hP; obtain ⟨q0, q1, q2, q3, q4, q5⟩ := p6_cells F.out.hP; refine store_event (w1 := ?wwwa) ?hgwa rfl rfl ?hrwa ?_; (case hgwa => rfl); (case hrwa => go_simp; rfl); intro wa hw; clear r0 r1 r2 r3 r4 r5 q0 q1 q2 q3 q4 q5; (try clear gc0 gc1 gf1); have hF_ : PB w0 w wa g g5 s (i : Int) pv 0 0 (-1) (-1) 0 0 := (by rw [hw]; exact ((((((F.out.set 0 (.int .i64 0) rfl).set 1 (.int .i64 0) rfl).set 2 (.int .i64 (-1)) rfl).set 3 (.int .i64 (-1)) rfl).set 4 (.int .i64 0) rfl).set 5 (.int .i64 0) rfl)); replace F := Aside0.mk hF_; clear hF_ hw; obtain ⟨gc0, gc1, gf1⟩ := F.out.cells) | (go_at_call 46; (with_reducible refine (topo_reader_number.calls (s.size + 1) g s (i : Int) pv 41 (i : Int) (dg s i : Int) 0 s (dg s i : Int) w0 _ F.out.inn F.out.below N1.out).mono ?_); rintro e wb ⟨rfl, hi_, hb_, hk_⟩; (try clear gc0 gc1 gf1); replace F := Aside0.mk (F.out.on hi_ hb_ hk_); clear hi_ hb_ hk_; obtain ⟨gc0, gc1, gf1⟩ := F.out.cells) | ((with_reducible refine gate_store (t := 70) (p := 13) (v := .tmp 11) rfl ?_); obtain ⟨r0, r1, r2, r3, r4, r5⟩ := froz F.out.hP; obtain ⟨q0, q1, q2, q3, q4, q5⟩ := p6_cells F.out.hP; refine store_event (w1 := ?wwwc) ?hgwc rfl rfl ?hrwc ?_; (case hgwc => rfl); (case hrwc => go_simp; rfl); intro wc hw; clear r0 r1 r2 r3 r4 r5 q0 q1 q2 q3 q4 q5; (try clear gc0 gc1 gf1); have hF_ : PB w0 w wc g g5 s (dg s i : Int) pv (i : Int) (dg s i : Int) (-1) (-1) 0 0 := (by rw [hw]; exact ((F.out.set 0 (.int .i64 (i : Int)) rfl).set 1 (.int .i64 (dg s i : Int)) rfl)); replace F := Aside0.mk hF_; clear hF_ hw; obtain ⟨gc0, gc1, gf1⟩ := F.out.cells) | (go_at_call 42; (with_reducible refine (topo_reader_next.calls g s (dg s i : Int) pv ⟨#[42]⟩ true s (dg s i : Int) w0 _ F.out.inn F.out.below N2.out).mono ?_); rintro e wd ⟨rfl, hi_, hb_, hk_⟩; (try clear gc0 gc1 gf1); replace F := Aside0.mk (F.out.on hi_ hb_ hk_); clear hi_ hb_ hk_; obtain ⟨gc0, gc1, gf1⟩ := F.out.cells) | ((with_reducible refine gate_store (t := 3) (p := 26) (v := .tmp 25) rfl ?_); obtain ⟨r0, r1, r2, r3, r4, r5⟩ := froz F.out.hP; obtain ⟨q0, q1, q2, q3, q4, q5⟩ := p6_cells F.out.hP; refine store_event (w1 := ?wwwe) ?hgwe rfl rfl ?hrwe ?_; (case hgwe => rfl); (case hrwe => go_simp; rfl); intro we hw; clear r0 r1 r2 r3 r4 r5 q0 q1 q2 q3 q4 q5; (try clear gc0 gc1 gf1); have hF_ : PB w0 w we g g5 s (dg s i : Int) pv (i : Int) (dg s i : Int) (dg s i : Int) (-1) 0 0 := (by rw [hw]; exact (F.out.set 2 (.int .i64 (dg s i : Int)) rfl)); replace F := Aside0.mk hF_; clear hF_ hw; obtain ⟨gc0, gc1, gf1⟩ := F.out.cells) | ((with_reducible refine gate_store (t := 3) (p := 33) (v := .tmp 31) rfl ?_); refine store_event (w1 := ?wwwf) ?hgwf rfl rfl ?hrwf ?_; (case hgwf => rfl); (case hrwf => go_simp; rfl); intro wf hw; (try clear gc0 gc1 gf1); have hF_ : PB w0 w wf g g5 s ((dg s i : Int) + 1) pv (i : Int) (dg s i : Int) (dg s i : Int) (-1) 0 0 := (by rw [hw, HWS.out]; exact F.out.inc _); replace F := Aside0.mk hF_; clear hF_ hw; obtain ⟨gc0, gc1, gf1⟩ := F.out.cells) | (go_at_call 42; (with_reducible refine (topo_reader_next.calls g s ((dg s i : Int) + 1) pv ⟨#[43, 45]⟩ false s ((dg s i : Int) + 1) w0 _ F.out.inn F.out.below N3.out).mono ?_); rintro e wg ⟨rfl, hi_, hb_, hk_⟩; (try clear gc0 gc1 gf1); replace F := Aside0.mk (F.out.on hi_ hb_ hk_); clear hi_ hb_ hk_; obtain ⟨gc0, gc1, gf1⟩ := F.out.cells))
  (try clear gc0 gc1 gf1)
  have HG := Aside0.mk F.out.hG
  have HP := Aside0.mk F.out.hP
  have HK := Aside0.mk F.out.hK
  have HB := Aside0.mk F.out.below
  have NE := Aside0.mk F.out.ne
  have G5 := Aside0.mk F.out.G5
  clear F
  have HR2 := Aside0.mk (Kd.R_drew (Kd.R_mono (ok' := fun k => True ∧ k ≠ g ∧ k ≠ g5) (Kd.R_keep (Kd.R_bound HR.out) HK.out (fun _ hk => hk.1.2)) (fun k hk => ⟨trivial, hk.1.2, by have := hk.2.2.1; have := G5.out; omega⟩)))
  refine start_ (n := 11) (S := fun w' => w'.cell? ⟨g, 2, none⟩ = some pv ∧ w'.cell? ⟨g5, 0, none⟩ = some (.int .i64 (i : Int)) ∧ w'.cell? ⟨g5, 1, none⟩ = some (.int .i64 (dg s i : Int)) ∧ w'.cell? ⟨g5, 2, none⟩ = some (.int .i64 (dg s i : Int)) ∧ w'.cell? ⟨g5, 3, none⟩ = some (.int .i64 (-1)) ∧ w'.cell? ⟨g5, 4, none⟩ = some (.int .i64 0) ∧ w'.cell? ⟨g5, 5, none⟩ = some (.int .i64 0)) (ds := [10]) #[false, false, false, false, false, false, false, false, false, false, false] (by kernel_rfl) rfl rfl ⟨(blk_cell HG.out 2).trans rfl, (blk_cell HP.out 0).trans rfl, (blk_cell HP.out 1).trans rfl, (blk_cell HP.out 2).trans rfl, (blk_cell HP.out 3).trans rfl, (blk_cell HP.out 4).trans rfl, (blk_cell HP.out 5).trans rfl⟩ (fun hHeld => ?_)
  have HG' := Aside0.mk (blk_drew HG.out)
  have HP' := Aside0.mk (blk_drew HP.out)
  have HK' := Aside0.mk (keep_drew HK.out)
  have HB' := Aside0.mk (below_drew1 HB.out)
  clear HG HP HK HB
  generalize wg.drew = wx at HG' HP' HK' HB' HR2 hHeld ⊢
  have HG := HG'
  have HP := HP'
  have HK := HK'
  have HB := HB'
  clear HG' HP' HK' HB'
  have GLT := Aside0.mk (blk_lt HG.out)
  have HKS := Aside0.mk (show w.heap.size ≤ wx.heap.size from HK.out.1)
  refine pure_ (i := 0) (N := (some 60)) (v := ?_) (a' := ?_) #[true, false, false, false, false, false, false, false, false, false, false] rfl rfl (by kernel_rfl) (fun _ _ _ h => h) (Or.inl ⟨by rfl, ?_⟩) ?_ ?_
  rotate_left
  · intro w'
    go_simp
    with_reducible rfl
  rotate_left
  · simp only [Act.put, List.setIfInBounds_toArray, List.set_cons_zero, List.set_cons_succ, i64_w, i32_w]
    rfl
  refine pure_ (i := 1) (N := (some 61)) (v := ?_) (a' := ?_) #[true, true, false, false, false, false, false, false, false, false, false] rfl rfl (by kernel_rfl) (fun _ _ _ h => h) (Or.inl ⟨by rfl, ?_⟩) ?_ ?_
  rotate_left
  · intro w'
    go_simp
    with_reducible rfl
  rotate_left
  · simp only [Act.put, List.setIfInBounds_toArray, List.set_cons_zero, List.set_cons_succ, i64_w, i32_w]
    rfl
  refine pure_ (i := 2) (N := (some 62)) (v := ?_) (a' := ?_) #[true, true, true, false, false, false, false, false, false, false, false] rfl rfl (by kernel_rfl) (fun _ _ _ h => h) (Or.inl ⟨by rfl, ?_⟩) ?_ ?_
  rotate_left
  · intro w'
    go_simp
    with_reducible rfl
  rotate_left
  · simp only [Act.put, List.setIfInBounds_toArray, List.set_cons_zero, List.set_cons_succ, i64_w, i32_w]
    rfl
  refine pure_ (i := 3) (N := (some 63)) (v := ?_) (a' := ?_) #[true, true, true, true, false, false, false, false, false, false, false] rfl rfl (by kernel_rfl) (fun _ _ _ h => h) (Or.inl ⟨by rfl, ?_⟩) ?_ ?_
  rotate_left
  · intro w'
    go_simp
    with_reducible rfl
  rotate_left
  · simp only [Act.put, List.setIfInBounds_toArray, List.set_cons_zero, List.set_cons_succ, i64_w, i32_w]
    rfl
  refine take_ (i := 4) (N := (some 64)) (v := ?_) (a' := ?_) #[true, true, true, true, true, false, false, false, false, false, false] rfl rfl (by kernel_rfl) (fun _ _ _ h => h) (Or.inl ⟨by rfl, ?_⟩) hHeld ?_ ?_
  rotate_left
  · rintro w' ⟨s0, s1, s2, s3, s4, s5, s6⟩
    go_simp
    with_reducible rfl
  rotate_left
  · simp only [Act.put, List.setIfInBounds_toArray, List.set_cons_zero, List.set_cons_succ, i64_w, i32_w]
    rfl
  refine take_ (i := 5) (N := (some 65)) (v := ?_) (a' := ?_) #[true, true, true, true, true, true, false, false, false, false, false] rfl rfl (by kernel_rfl) (fun _ _ _ h => h) (Or.inl ⟨by rfl, ?_⟩) hHeld ?_ ?_
  rotate_left
  · rintro w' ⟨s0, s1, s2, s3, s4, s5, s6⟩
    go_simp
    with_reducible rfl
  rotate_left
  · simp only [Act.put, List.setIfInBounds_toArray, List.set_cons_zero, List.set_cons_succ, i64_w, i32_w]
    rfl
  have GLP := Aside0.mk (blk_lt HP.out)
  refine one_ (i := 6) (N := (some 66)) #[true, true, true, true, true, true, true, false, false, false, false] rfl rfl (by kernel_rfl) (by decide) (fun K hK => ?_)
  refine value_ (v := .slice (some ⟨wx.heap.size, 0, none⟩) 1 1) (w1 := wx.alloc (.cells #[.int .i64 (i : Int), .int .i64 (dg s i : Int), .int .i64 (dg s i : Int), .int .i64 (-1), .int .i64 0, .int .i64 0] 72)) (by rfl) rfl ?_ ?_
  · first | (go_simp; done) | (go_simp; rfl)
  refine hK.out _ _ ⟨(World.cell?_alloc_lt _ _ _ (World.block_lt_of_cell? _ _ hHeld.1)).trans hHeld.1, (World.cell?_alloc_lt _ _ _ (World.block_lt_of_cell? _ _ hHeld.2.1)).trans hHeld.2.1, (World.cell?_alloc_lt _ _ _ (World.block_lt_of_cell? _ _ hHeld.2.2.1)).trans hHeld.2.2.1, (World.cell?_alloc_lt _ _ _ (World.block_lt_of_cell? _ _ hHeld.2.2.2.1)).trans hHeld.2.2.2.1, (World.cell?_alloc_lt _ _ _ (World.block_lt_of_cell? _ _ hHeld.2.2.2.2.1)).trans hHeld.2.2.2.2.1, (World.cell?_alloc_lt _ _ _ (World.block_lt_of_cell? _ _ hHeld.2.2.2.2.2.1)).trans hHeld.2.2.2.2.2.1, (World.cell?_alloc_lt _ _ _ (World.block_lt_of_cell? _ _ hHeld.2.2.2.2.2.2)).trans hHeld.2.2.2.2.2.2⟩ (fun hHeld => ?_)
  clear hK K
  refine one_ (i := 7) (N := (some 67)) #[true, true, true, true, true, true, true, true, false, false, false] rfl rfl (by kernel_rfl) (by decide) (fun K hK => ?_)
  refine Kd.R_append_step k72 (w0 := w0) w0.heap.size (by rfl) (.tmp 64) (.tmp 66) 64 72 z72 48 rfl Tryd.underlying64 info72 rfl (by decide) (by omega) pv ps (⟨⟨(i : Int), (dg s i : Int)⟩, (dg s i : Int), (-1), ⟨0, 0⟩⟩ : S72) [.int .i64 (i : Int), .int .i64 (dg s i : Int), .int .i64 (dg s i : Int), .int .i64 (-1), .int .i64 0, .int .i64 0] (fun k => True ∧ k ≠ g ∧ k ≠ g5) (fun _ => False) rfl ?_ ?_ (fun _ hk => hk.elim) ?_ ?_ ?_ ?_ ?_ ?_
  · rfl
  · exact k72_mkM _ _ _ (⟨⟨(i : Int), (dg s i : Int)⟩, (dg s i : Int), (-1), ⟨0, 0⟩⟩ : S72)
  · exact fun k hk => ⟨trivial, by have := GLT.out; omega, by have := GLP.out; omega⟩
  · exact HR2.out
  · exact HB.out
  · exact HB.out.size
  · omega
  intro pv1 w1 hr1 hb1 hg1 hat1
  have nG := Kd.R_away (g := g) HR2.out (fun _ hk => hk.2.1)
  have nP := Kd.R_away (g := g5) HR2.out (fun _ hk => hk.2.2)
  refine hK.out _ _ ⟨cell_grown hg1 (cell_unalloc hHeld.1 GLT.out) nG, cell_grown hg1 (cell_unalloc hHeld.2.1 GLP.out) nP, cell_grown hg1 (cell_unalloc hHeld.2.2.1 GLP.out) nP, cell_grown hg1 (cell_unalloc hHeld.2.2.2.1 GLP.out) nP, cell_grown hg1 (cell_unalloc hHeld.2.2.2.2.1 GLP.out) nP, cell_grown hg1 (cell_unalloc hHeld.2.2.2.2.2.1 GLP.out) nP, cell_grown hg1 (cell_unalloc hHeld.2.2.2.2.2.2 GLP.out) nP⟩ (fun hHeld => ?_)
  clear hK K hHeld
  have HR3 := Aside0.mk hr1
  have HG3 := Aside0.mk (blk_grown HG.out hg1 nG)
  have HAT := Aside0.mk hat1
  have HK3 := Aside0.mk (show KeepBut w w1 g pv.ownBlock from (show KeepBut w wx g pv.ownBlock from ⟨HK.out.1, fun k h1 h2 _ => HK.out.2 k h1 h2 (by simp)⟩).trans (KeepBut.of_grown hg1 g) (.inl rfl))
  have HB3 := Aside0.mk hb1
  clear hr1 hb1 hg1 hat1 nG nP HR2 HG HK HB HR HP
  refine pure_ (i := 8) (N := (some 68)) (v := ?_) (a' := ?_) #[true, true, true, true, true, true, true, true, true, false, false] rfl rfl (by kernel_rfl) (fun _ _ _ h => h) (Or.inl ⟨by rfl, ?_⟩) ?_ ?_
  rotate_left
  · intro w'
    go_simp
    with_reducible rfl
  rotate_left
  · simp only [Act.put, List.setIfInBounds_toArray, List.set_cons_zero, List.set_cons_succ, i64_w, i32_w]
    rfl
  refine pure_ (i := 9) (N := (some 69)) (v := ?_) (a' := ?_) #[true, true, true, true, true, true, true, true, true, true, false] rfl rfl (by kernel_rfl) (fun _ _ _ h => h) (Or.inl ⟨by rfl, ?_⟩) ?_ ?_
  rotate_left
  · intro w'
    go_simp
    with_reducible rfl
  rotate_left
  · simp only [Act.put, List.setIfInBounds_toArray, List.set_cons_zero, List.set_cons_succ, i64_w, i32_w]
    rfl
  refine last_ (i := 10) (N := none) #[true, true, true, true, true, true, true, true, true, true, true] rfl rfl (by kernel_rfl) (by decide) (fun K hK => ?_)
  have gc2 := (blk_cell HG3.out 2).trans (show ((#[Value.string s, .int .i64 ((dg s i : Int) + 1), pv] : Array Value)[2]?) = some pv from rfl)
  have gf2 := blk_frozen HG3.out 2
  refine skip_ (w1 := w1.setCell ⟨g, 2, none⟩ pv1) (by rfl) rfl ?_ ?_
  · obtain ⟨A1, c1, rfl⟩ := Kd.R_slice HR3.out; first | (go_simp; done) | (go_simp; rfl)
  refine hK.out _ _ ?_
  clear hK K gc2 gf2
  refine done_ (by kernel_rfl) ?_
  try go_wp2
  go_ret
  refine ⟨rfl, pv1, blk_put (cs := #[.string s, .int .i64 ((dg s i : Int) + 1), pv]) HG3.out 2 pv1 rfl, ?_, below_set HB3.out HGE.out, KeepBut.set_ HK3.out 2 _, ?_⟩
  · exact Kd.R_mono (Kd.R_far (p := ⟨g, 2, none⟩) HR3.out (fun _ hk => hk.2.1) _) (fun _ _ => trivial)
  · rcases HAT.out with h | ⟨b, h1, h2⟩
    · exact .inl h
    · exact .inr ⟨b, h1, Nat.le_trans HKS.out h2⟩
set_option maxHeartbeats 4000000 in
set_option maxRecDepth 100000 in
theorem t01 (s : ByteArray) (i : Nat) (tt : Nat) (pv : Value) (ps : List S72) (g : Nat) (w0 w : World) (hs : s.size ≤ 1048576) (hi : i ≤ s.size) (hl : ps.length ≤ 2) (hG : w.heap[g]? = some (.cells #[.string s, .int .i64 (i : Int), pv] 66 (0, 0))) (hge : w0.heap.size ≤ g) (hR : Kd.R k72 72 w w0.heap.size (fun _ => True) pv ps) (hB : Below w0.heap.size w0 w)
    (n1 : dg s i ≠ i) (n2 : nxt s (dg s i) [42] = false) (n3 : nxt s (dg s i) [43, 45] = true) (n5 : dg s ((dg s i) + 1) = tt) (n6 : tt ≠ (dg s i) + 1) :
    Calls Tryd.prog 41 #[.pointer (some ⟨g, 0, none⟩), .bool true] w fun e w' => e = .returned (.int .i64 0) ∧ After w0 w w' g s (tt : Int) pv (ps ++ [(⟨⟨(i : Int), (dg s i : Int)⟩, (-1), (dg s i : Int), ⟨((dg s i : Int) + 1), (tt : Int)⟩⟩ : S72)]) := by
  have HR := Aside0.mk (Kd.R_types hR hG (g := g) (by decide))
  have HW := Aside0.mk hB.size
  have HG := Aside0.mk hG
  have HGE := Aside0.mk hge
  have HB := Aside0.mk hB
  have HK := Aside0.mk (KeepBut.refl w g none)
  have hu := Tryd.underlying72
  have hv := Tryd.underlying70
  have gc0 := (blk_cell HG.out 0).trans (show ((#[Value.string s, .int .i64 (i : Int), pv] : Array Value)[0]?) = some (Value.string s) from rfl)
  have gc1 := (blk_cell HG.out 1).trans (show ((#[Value.string s, .int .i64 (i : Int), pv] : Array Value)[1]?) = some (Value.int .i64 (i : Int)) from rfl)
  have gf1 := blk_frozen HG.out 1
  have N1 := Aside0.mk (number_ok 41 s pv hs i hi n1)
  have hd1 := dg_le hi
  have N2 := Aside0.mk (n2 ▸ next_star s pv (dg s i))
  have N3 : Aside0 (topo_reader_next.f s (dg s i : Int) pv ⟨#[43, 45]⟩ = some (true, s, (dg s i : Int))) := ⟨by have h_ := next_sign s pv (dg s i); rw [n3] at h_; exact h_⟩
  have hl2 : (dg s i) < s.size := by unfold nxt at n3; simp only [Bool.and_eq_true, decide_eq_true_eq] at n3; exact n3.1
  have HWG := Aside0.mk (show wrap64 ((dg s i : Int) + 1) = (dg s i : Int) + 1 by unfold wrap64; omega)
  have N4 : Aside0 (topo_reader_number.f (s.size + 1) s ((dg s i : Int) + 1) pv 43 = some ((dg s i : Int) + 1, (tt : Int), 0, s, (tt : Int))) := ⟨by have h_ := number_ok 43 s pv hs ((dg s i) + 1) (by omega) (by first | exact n5 | (rw [n5]; exact n6)); rw [n5] at h_; exact h_⟩
  clear hd1
  clear hl2
  clear hG hge hR hB n1 n2 n3 n5 n6
  go_enter Tryd.func41, Tryd.ntmps41
  go_wp2_with (first | ((with_reducible refine gate_dst (N := 5) rfl ?_); refine box_event ?hg (N := 5) ?hd (cs := #[.int .i64 0, .int .i64 0, .int .i64 0, .int .i64 0, .int .i64 0, .int .i64 0]) (t := 72) ?hr ?_; (case hd => rfl); (case hg => rfl); (case hr => first | (go_simp; done) | (go_simp; rfl)); intro g5 hg5 w5 hbox hb; (try clear gc0 gc1 gf1); have F : Aside0 (PB w0 w w5 g g5 s (i : Int) pv 0 0 0 0 0 0) := ⟨⟨below_step HB.out hb, blk_below HG.out hb, hbox, HK.out.trans (KeepBut.of_below hb g none) (.inl rfl), (by rw [hg5]; exact Nat.ne_of_lt (blk_lt HG.out)), (by rw [hg5]; exact keep_size HK.out), HW.out, HGE.out⟩⟩; clear hb hbox hg5 HB HG HK; obtain ⟨gc0, gc1, gf1⟩ := F.out.cells) | ((with_reducible refine gate_store (t := 72) (p := 5) (v := .tmp 7) rfl ?_); obtain ⟨r0, r1, r2, r3, r4, r5⟩ := froz F.out.hP; obtain ⟨q0, q1, q2, q3, q4, q5⟩ := p6_cells F.out.hP; refine store_event (w1 := ?wwwa) ?hgwa rfl rfl ?hrwa ?_; (case hgwa => rfl); (case hrwa => go_simp; rfl); intro wa hw; clear r0 r1 r2 r3 r4 r5 q0 q1 q2 q3 q4 q5; (try clear gc0 gc1 gf1); have hF_ : PB w0 w wa g g5 s (i : Int) pv 0 0 (-1) (-1) 0 0 := (by rw [hw]; exact ((((((F.out.set 0 (.int .i64 0) rfl).set 1 (.int .i64 0) rfl).set 2 (.int .i64 (-1)) rfl).set 3 (.int .i64 (-1)) rfl).set 4 (.int .i64 0) rfl).set 5 (.int .i64 0) rfl)); replace F := Aside0.mk hF_; clear hF_ hw; obtain ⟨gc0, gc1, gf1⟩ := F.out.cells) | (go_at_call 46; (with_reducible refine (topo_reader_number.calls (s.size + 1) g s (i : Int) pv 41 (i : Int) (dg s i : Int) 0 s (dg s i : Int) w0 _ F.out.inn F.out.below N1.out).mono ?_); rintro e wb ⟨rfl, hi_, hb_, hk_⟩; (try clear gc0 gc1 gf1); replace F := Aside0.mk (F.out.on hi_ hb_ hk_); clear hi_ hb_ hk_; obtain ⟨gc0, gc1, gf1⟩ := F.out.cells) | ((with_reducible refine gate_store (t := 70) (p := 13) (v := .tmp 11) rfl ?_); obtain ⟨r0, r1, r2, r3, r4, r5⟩ := froz F.out.hP; obtain ⟨q0, q1, q2, q3, q4, q5⟩ := p6_cells F.out.hP; refine store_event (w1 := ?wwwc) ?hgwc rfl rfl ?hrwc ?_; (case hgwc => rfl); (case hrwc => go_simp; rfl); intro wc hw; clear r0 r1 r2 r3 r4 r5 q0 q1 q2 q3 q4 q5; (try clear gc0 gc1 gf1); have hF_ : PB w0 w wc g g5 s (dg s i : Int) pv (i : Int) (dg s i : Int) (-1) (-1) 0 0 := (by rw [hw]; exact ((F.out.set 0 (.int .i64 (i : Int)) rfl).set 1 (.int .i64 (dg s i : Int)) rfl)); replace F := Aside0.mk hF_; clear hF_ hw; obtain ⟨gc0, gc1, gf1⟩ := F.out.cells) | (go_at_call 42; (with_reducible refine (topo_reader_next.calls g s (dg s i : Int) pv ⟨#[42]⟩ false s (dg s i : Int) w0 _ F.out.inn F.out.below N2.out).mono ?_); rintro e wd ⟨rfl, hi_, hb_, hk_⟩; (try clear gc0 gc1 gf1); replace F := Aside0.mk (F.out.on hi_ hb_ hk_); clear hi_ hb_ hk_; obtain ⟨gc0, gc1, gf1⟩ := F.out.cells) | (go_at_call 42; (with_reducible refine (topo_reader_next.calls g s (dg s i : Int) pv ⟨#[43, 45]⟩ true s (dg s i : Int) w0 _ F.out.inn F.out.below N3.out).mono ?_); rintro e wg ⟨rfl, hi_, hb_, hk_⟩; (try clear gc0 gc1 gf1); replace F := Aside0.mk (F.out.on hi_ hb_ hk_); clear hi_ hb_ hk_; obtain ⟨gc0, gc1, gf1⟩ := F.out.cells) | ((with_reducible refine gate_store (t := 3) (p := 43) (v := .tmp 42) rfl ?_); obtain ⟨r0, r1, r2, r3, r4, r5⟩ := froz F.out.hP; obtain ⟨q0, q1, q2, q3, q4, q5⟩ := p6_cells F.out.hP; refine store_event (w1 := ?wwwh) ?hgwh rfl rfl ?hrwh ?_; (case hgwh => rfl); (case hrwh => go_simp; rfl); intro wh hw; clear r0 r1 r2 r3 r4 r5 q0 q1 q2 q3 q4 q5; (try clear gc0 gc1 gf1); have hF_ : PB w0 w wh g g5 s (dg s i : Int) pv (i : Int) (dg s i : Int) (-1) (dg s i : Int) 0 0 := (by rw [hw]; exact (F.out.set 3 (.int .i64 (dg s i : Int)) rfl)); replace F := Aside0.mk hF_; clear hF_ hw; obtain ⟨gc0, gc1, gf1⟩ := F.out.cells) | ((with_reducible refine gate_store (t := 3) (p := 50) (v := .tmp 48) rfl ?_); refine store_event (w1 := ?wwwi) ?hgwi rfl rfl ?hrwi ?_; (case hgwi => rfl); (case hrwi => go_simp; rfl); intro wi hw; (try clear gc0 gc1 gf1); have hF_ : PB w0 w wi g g5 s ((dg s i : Int) + 1) pv (i : Int) (dg s i : Int) (-1) (dg s i : Int) 0 0 := (by rw [hw, HWG.out]; exact F.out.inc _); replace F := Aside0.mk hF_; clear hF_ hw; obtain ⟨gc0, gc1, gf1⟩ := F.out.cells) | (go_at_call 46; (with_reducible refine (topo_reader_number.calls (s.size + 1) g s ((dg s i : Int) + 1) pv 43 ((dg s i : Int) + 1) (tt : Int) 0 s (tt : Int) w0 _ F.out.inn F.out.below N4.out).mono ?_); rintro e wj ⟨rfl, hi_, hb_, hk_⟩; (try clear gc0 gc1 gf1); replace F := Aside0.mk (F.out.on hi_ hb_ hk_); clear hi_ hb_ hk_; obtain ⟨gc0, gc1, gf1⟩ := F.out.cells) | ((with_reducible refine gate_store (t := 70) (p := 56) (v := .tmp 54) rfl ?_); obtain ⟨r0, r1, r2, r3, r4, r5⟩ := froz F.out.hP; obtain ⟨q0, q1, q2, q3, q4, q5⟩ := p6_cells F.out.hP; refine store_event (w1 := ?wwwk) ?hgwk rfl rfl ?hrwk ?_; (case hgwk => rfl); (case hrwk => go_simp; rfl); intro wk hw; clear r0 r1 r2 r3 r4 r5 q0 q1 q2 q3 q4 q5; (try clear gc0 gc1 gf1); have hF_ : PB w0 w wk g g5 s (tt : Int) pv (i : Int) (dg s i : Int) (-1) (dg s i : Int) ((dg s i : Int) + 1) (tt : Int) := (by rw [hw]; exact ((F.out.set 4 (.int .i64 ((dg s i : Int) + 1)) rfl).set 5 (.int .i64 (tt : Int)) rfl)); replace F := Aside0.mk hF_; clear hF_ hw; obtain ⟨gc0, gc1, gf1⟩ := F.out.cells))
  (try clear gc0 gc1 gf1)
  have HG := Aside0.mk F.out.hG
  have HP := Aside0.mk F.out.hP
  have HK := Aside0.mk F.out.hK
  have HB := Aside0.mk F.out.below
  have NE := Aside0.mk F.out.ne
  have G5 := Aside0.mk F.out.G5
  clear F
  have HR2 := Aside0.mk (Kd.R_drew (Kd.R_mono (ok' := fun k => True ∧ k ≠ g ∧ k ≠ g5) (Kd.R_keep (Kd.R_bound HR.out) HK.out (fun _ hk => hk.1.2)) (fun k hk => ⟨trivial, hk.1.2, by have := hk.2.2.1; have := G5.out; omega⟩)))
  refine start_ (n := 11) (S := fun w' => w'.cell? ⟨g, 2, none⟩ = some pv ∧ w'.cell? ⟨g5, 0, none⟩ = some (.int .i64 (i : Int)) ∧ w'.cell? ⟨g5, 1, none⟩ = some (.int .i64 (dg s i : Int)) ∧ w'.cell? ⟨g5, 2, none⟩ = some (.int .i64 (-1)) ∧ w'.cell? ⟨g5, 3, none⟩ = some (.int .i64 (dg s i : Int)) ∧ w'.cell? ⟨g5, 4, none⟩ = some (.int .i64 ((dg s i : Int) + 1)) ∧ w'.cell? ⟨g5, 5, none⟩ = some (.int .i64 (tt : Int))) (ds := [10]) #[false, false, false, false, false, false, false, false, false, false, false] (by kernel_rfl) rfl rfl ⟨(blk_cell HG.out 2).trans rfl, (blk_cell HP.out 0).trans rfl, (blk_cell HP.out 1).trans rfl, (blk_cell HP.out 2).trans rfl, (blk_cell HP.out 3).trans rfl, (blk_cell HP.out 4).trans rfl, (blk_cell HP.out 5).trans rfl⟩ (fun hHeld => ?_)
  have HG' := Aside0.mk (blk_drew HG.out)
  have HP' := Aside0.mk (blk_drew HP.out)
  have HK' := Aside0.mk (keep_drew HK.out)
  have HB' := Aside0.mk (below_drew1 HB.out)
  clear HG HP HK HB
  generalize wk.drew = wx at HG' HP' HK' HB' HR2 hHeld ⊢
  have HG := HG'
  have HP := HP'
  have HK := HK'
  have HB := HB'
  clear HG' HP' HK' HB'
  have GLT := Aside0.mk (blk_lt HG.out)
  have HKS := Aside0.mk (show w.heap.size ≤ wx.heap.size from HK.out.1)
  refine pure_ (i := 0) (N := (some 60)) (v := ?_) (a' := ?_) #[true, false, false, false, false, false, false, false, false, false, false] rfl rfl (by kernel_rfl) (fun _ _ _ h => h) (Or.inl ⟨by rfl, ?_⟩) ?_ ?_
  rotate_left
  · intro w'
    go_simp
    with_reducible rfl
  rotate_left
  · simp only [Act.put, List.setIfInBounds_toArray, List.set_cons_zero, List.set_cons_succ, i64_w, i32_w]
    rfl
  refine pure_ (i := 1) (N := (some 61)) (v := ?_) (a' := ?_) #[true, true, false, false, false, false, false, false, false, false, false] rfl rfl (by kernel_rfl) (fun _ _ _ h => h) (Or.inl ⟨by rfl, ?_⟩) ?_ ?_
  rotate_left
  · intro w'
    go_simp
    with_reducible rfl
  rotate_left
  · simp only [Act.put, List.setIfInBounds_toArray, List.set_cons_zero, List.set_cons_succ, i64_w, i32_w]
    rfl
  refine pure_ (i := 2) (N := (some 62)) (v := ?_) (a' := ?_) #[true, true, true, false, false, false, false, false, false, false, false] rfl rfl (by kernel_rfl) (fun _ _ _ h => h) (Or.inl ⟨by rfl, ?_⟩) ?_ ?_
  rotate_left
  · intro w'
    go_simp
    with_reducible rfl
  rotate_left
  · simp only [Act.put, List.setIfInBounds_toArray, List.set_cons_zero, List.set_cons_succ, i64_w, i32_w]
    rfl
  refine pure_ (i := 3) (N := (some 63)) (v := ?_) (a' := ?_) #[true, true, true, true, false, false, false, false, false, false, false] rfl rfl (by kernel_rfl) (fun _ _ _ h => h) (Or.inl ⟨by rfl, ?_⟩) ?_ ?_
  rotate_left
  · intro w'
    go_simp
    with_reducible rfl
  rotate_left
  · simp only [Act.put, List.setIfInBounds_toArray, List.set_cons_zero, List.set_cons_succ, i64_w, i32_w]
    rfl
  refine take_ (i := 4) (N := (some 64)) (v := ?_) (a' := ?_) #[true, true, true, true, true, false, false, false, false, false, false] rfl rfl (by kernel_rfl) (fun _ _ _ h => h) (Or.inl ⟨by rfl, ?_⟩) hHeld ?_ ?_
  rotate_left
  · rintro w' ⟨s0, s1, s2, s3, s4, s5, s6⟩
    go_simp
    with_reducible rfl
  rotate_left
  · simp only [Act.put, List.setIfInBounds_toArray, List.set_cons_zero, List.set_cons_succ, i64_w, i32_w]
    rfl
  refine take_ (i := 5) (N := (some 65)) (v := ?_) (a' := ?_) #[true, true, true, true, true, true, false, false, false, false, false] rfl rfl (by kernel_rfl) (fun _ _ _ h => h) (Or.inl ⟨by rfl, ?_⟩) hHeld ?_ ?_
  rotate_left
  · rintro w' ⟨s0, s1, s2, s3, s4, s5, s6⟩
    go_simp
    with_reducible rfl
  rotate_left
  · simp only [Act.put, List.setIfInBounds_toArray, List.set_cons_zero, List.set_cons_succ, i64_w, i32_w]
    rfl
  have GLP := Aside0.mk (blk_lt HP.out)
  refine one_ (i := 6) (N := (some 66)) #[true, true, true, true, true, true, true, false, false, false, false] rfl rfl (by kernel_rfl) (by decide) (fun K hK => ?_)
  refine value_ (v := .slice (some ⟨wx.heap.size, 0, none⟩) 1 1) (w1 := wx.alloc (.cells #[.int .i64 (i : Int), .int .i64 (dg s i : Int), .int .i64 (-1), .int .i64 (dg s i : Int), .int .i64 ((dg s i : Int) + 1), .int .i64 (tt : Int)] 72)) (by rfl) rfl ?_ ?_
  · first | (go_simp; done) | (go_simp; rfl)
  refine hK.out _ _ ⟨(World.cell?_alloc_lt _ _ _ (World.block_lt_of_cell? _ _ hHeld.1)).trans hHeld.1, (World.cell?_alloc_lt _ _ _ (World.block_lt_of_cell? _ _ hHeld.2.1)).trans hHeld.2.1, (World.cell?_alloc_lt _ _ _ (World.block_lt_of_cell? _ _ hHeld.2.2.1)).trans hHeld.2.2.1, (World.cell?_alloc_lt _ _ _ (World.block_lt_of_cell? _ _ hHeld.2.2.2.1)).trans hHeld.2.2.2.1, (World.cell?_alloc_lt _ _ _ (World.block_lt_of_cell? _ _ hHeld.2.2.2.2.1)).trans hHeld.2.2.2.2.1, (World.cell?_alloc_lt _ _ _ (World.block_lt_of_cell? _ _ hHeld.2.2.2.2.2.1)).trans hHeld.2.2.2.2.2.1, (World.cell?_alloc_lt _ _ _ (World.block_lt_of_cell? _ _ hHeld.2.2.2.2.2.2)).trans hHeld.2.2.2.2.2.2⟩ (fun hHeld => ?_)
  clear hK K
  refine one_ (i := 7) (N := (some 67)) #[true, true, true, true, true, true, true, true, false, false, false] rfl rfl (by kernel_rfl) (by decide) (fun K hK => ?_)
  refine Kd.R_append_step k72 (w0 := w0) w0.heap.size (by rfl) (.tmp 64) (.tmp 66) 64 72 z72 48 rfl Tryd.underlying64 info72 rfl (by decide) (by omega) pv ps (⟨⟨(i : Int), (dg s i : Int)⟩, (-1), (dg s i : Int), ⟨((dg s i : Int) + 1), (tt : Int)⟩⟩ : S72) [.int .i64 (i : Int), .int .i64 (dg s i : Int), .int .i64 (-1), .int .i64 (dg s i : Int), .int .i64 ((dg s i : Int) + 1), .int .i64 (tt : Int)] (fun k => True ∧ k ≠ g ∧ k ≠ g5) (fun _ => False) rfl ?_ ?_ (fun _ hk => hk.elim) ?_ ?_ ?_ ?_ ?_ ?_
  · rfl
  · exact k72_mkM _ _ _ (⟨⟨(i : Int), (dg s i : Int)⟩, (-1), (dg s i : Int), ⟨((dg s i : Int) + 1), (tt : Int)⟩⟩ : S72)
  · exact fun k hk => ⟨trivial, by have := GLT.out; omega, by have := GLP.out; omega⟩
  · exact HR2.out
  · exact HB.out
  · exact HB.out.size
  · omega
  intro pv1 w1 hr1 hb1 hg1 hat1
  have nG := Kd.R_away (g := g) HR2.out (fun _ hk => hk.2.1)
  have nP := Kd.R_away (g := g5) HR2.out (fun _ hk => hk.2.2)
  refine hK.out _ _ ⟨cell_grown hg1 (cell_unalloc hHeld.1 GLT.out) nG, cell_grown hg1 (cell_unalloc hHeld.2.1 GLP.out) nP, cell_grown hg1 (cell_unalloc hHeld.2.2.1 GLP.out) nP, cell_grown hg1 (cell_unalloc hHeld.2.2.2.1 GLP.out) nP, cell_grown hg1 (cell_unalloc hHeld.2.2.2.2.1 GLP.out) nP, cell_grown hg1 (cell_unalloc hHeld.2.2.2.2.2.1 GLP.out) nP, cell_grown hg1 (cell_unalloc hHeld.2.2.2.2.2.2 GLP.out) nP⟩ (fun hHeld => ?_)
  clear hK K hHeld
  have HR3 := Aside0.mk hr1
  have HG3 := Aside0.mk (blk_grown HG.out hg1 nG)
  have HAT := Aside0.mk hat1
  have HK3 := Aside0.mk (show KeepBut w w1 g pv.ownBlock from (show KeepBut w wx g pv.ownBlock from ⟨HK.out.1, fun k h1 h2 _ => HK.out.2 k h1 h2 (by simp)⟩).trans (KeepBut.of_grown hg1 g) (.inl rfl))
  have HB3 := Aside0.mk hb1
  clear hr1 hb1 hg1 hat1 nG nP HR2 HG HK HB HR HP
  refine pure_ (i := 8) (N := (some 68)) (v := ?_) (a' := ?_) #[true, true, true, true, true, true, true, true, true, false, false] rfl rfl (by kernel_rfl) (fun _ _ _ h => h) (Or.inl ⟨by rfl, ?_⟩) ?_ ?_
  rotate_left
  · intro w'
    go_simp
    with_reducible rfl
  rotate_left
  · simp only [Act.put, List.setIfInBounds_toArray, List.set_cons_zero, List.set_cons_succ, i64_w, i32_w]
    rfl
  refine pure_ (i := 9) (N := (some 69)) (v := ?_) (a' := ?_) #[true, true, true, true, true, true, true, true, true, true, false] rfl rfl (by kernel_rfl) (fun _ _ _ h => h) (Or.inl ⟨by rfl, ?_⟩) ?_ ?_
  rotate_left
  · intro w'
    go_simp
    with_reducible rfl
  rotate_left
  · simp only [Act.put, List.setIfInBounds_toArray, List.set_cons_zero, List.set_cons_succ, i64_w, i32_w]
    rfl
  refine last_ (i := 10) (N := none) #[true, true, true, true, true, true, true, true, true, true, true] rfl rfl (by kernel_rfl) (by decide) (fun K hK => ?_)
  have gc2 := (blk_cell HG3.out 2).trans (show ((#[Value.string s, .int .i64 (tt : Int), pv] : Array Value)[2]?) = some pv from rfl)
  have gf2 := blk_frozen HG3.out 2
  refine skip_ (w1 := w1.setCell ⟨g, 2, none⟩ pv1) (by rfl) rfl ?_ ?_
  · obtain ⟨A1, c1, rfl⟩ := Kd.R_slice HR3.out; first | (go_simp; done) | (go_simp; rfl)
  refine hK.out _ _ ?_
  clear hK K gc2 gf2
  refine done_ (by kernel_rfl) ?_
  try go_wp2
  go_ret
  refine ⟨rfl, pv1, blk_put (cs := #[.string s, .int .i64 (tt : Int), pv]) HG3.out 2 pv1 rfl, ?_, below_set HB3.out HGE.out, KeepBut.set_ HK3.out 2 _, ?_⟩
  · exact Kd.R_mono (Kd.R_far (p := ⟨g, 2, none⟩) HR3.out (fun _ hk => hk.2.1) _) (fun _ _ => trivial)
  · rcases HAT.out with h | ⟨b, h1, h2⟩
    · exact .inl h
    · exact .inr ⟨b, h1, Nat.le_trans HKS.out h2⟩
set_option maxHeartbeats 4000000 in
set_option maxRecDepth 100000 in
theorem t11 (s : ByteArray) (i : Nat) (tt : Nat) (pv : Value) (ps : List S72) (g : Nat) (w0 w : World) (hs : s.size ≤ 1048576) (hi : i ≤ s.size) (hl : ps.length ≤ 2) (hG : w.heap[g]? = some (.cells #[.string s, .int .i64 (i : Int), pv] 66 (0, 0))) (hge : w0.heap.size ≤ g) (hR : Kd.R k72 72 w w0.heap.size (fun _ => True) pv ps) (hB : Below w0.heap.size w0 w)
    (n1 : dg s i ≠ i) (n2 : nxt s (dg s i) [42] = true) (n3 : nxt s (dg s i + 1) [43, 45] = true) (n5 : dg s ((dg s i + 1) + 1) = tt) (n6 : tt ≠ (dg s i + 1) + 1) :
    Calls Tryd.prog 41 #[.pointer (some ⟨g, 0, none⟩), .bool true] w fun e w' => e = .returned (.int .i64 0) ∧ After w0 w w' g s (tt : Int) pv (ps ++ [(⟨⟨(i : Int), (dg s i : Int)⟩, (dg s i : Int), ((dg s i : Int) + 1), ⟨(((dg s i : Int) + 1) + 1), (tt : Int)⟩⟩ : S72)]) := by
  have HR := Aside0.mk (Kd.R_types hR hG (g := g) (by decide))
  have HW := Aside0.mk hB.size
  have HG := Aside0.mk hG
  have HGE := Aside0.mk hge
  have HB := Aside0.mk hB
  have HK := Aside0.mk (KeepBut.refl w g none)
  have hu := Tryd.underlying72
  have hv := Tryd.underlying70
  have gc0 := (blk_cell HG.out 0).trans (show ((#[Value.string s, .int .i64 (i : Int), pv] : Array Value)[0]?) = some (Value.string s) from rfl)
  have gc1 := (blk_cell HG.out 1).trans (show ((#[Value.string s, .int .i64 (i : Int), pv] : Array Value)[1]?) = some (Value.int .i64 (i : Int)) from rfl)
  have gf1 := blk_frozen HG.out 1
  have N1 := Aside0.mk (number_ok 41 s pv hs i hi n1)
  have hd1 := dg_le hi
  have N2 := Aside0.mk (n2 ▸ next_star s pv (dg s i))
  have hl1 : dg s i < s.size := by unfold nxt at n2; simp only [Bool.and_eq_true, decide_eq_true_eq] at n2; exact n2.1
  have HWS := Aside0.mk (show wrap64 ((dg s i : Int) + 1) = (dg s i : Int) + 1 by unfold wrap64; omega)
  have N3 : Aside0 (topo_reader_next.f s ((dg s i : Int) + 1) pv ⟨#[43, 45]⟩ = some (true, s, ((dg s i : Int) + 1))) := ⟨by have h_ := next_sign s pv (dg s i + 1); rw [n3] at h_; exact h_⟩
  have hl2 : (dg s i + 1) < s.size := by unfold nxt at n3; simp only [Bool.and_eq_true, decide_eq_true_eq] at n3; exact n3.1
  have HWG := Aside0.mk (show wrap64 (((dg s i : Int) + 1) + 1) = ((dg s i : Int) + 1) + 1 by unfold wrap64; omega)
  have N4 : Aside0 (topo_reader_number.f (s.size + 1) s (((dg s i : Int) + 1) + 1) pv 43 = some (((dg s i : Int) + 1) + 1, (tt : Int), 0, s, (tt : Int))) := ⟨by have h_ := number_ok 43 s pv hs ((dg s i + 1) + 1) (by omega) (by first | exact n5 | (rw [n5]; exact n6)); rw [n5] at h_; exact h_⟩
  clear hd1
  clear hl1
  clear hl2
  clear hG hge hR hB n1 n2 n3 n5 n6
  go_enter Tryd.func41, Tryd.ntmps41
  go_wp2_with (first | ((with_reducible refine gate_dst (N := 5) rfl ?_); refine box_event ?hg (N := 5) ?hd (cs := #[.int .i64 0, .int .i64 0, .int .i64 0, .int .i64 0, .int .i64 0, .int .i64 0]) (t := 72) ?hr ?_; (case hd => rfl); (case hg => rfl); (case hr => first | (go_simp; done) | (go_simp; rfl)); intro g5 hg5 w5 hbox hb; (try clear gc0 gc1 gf1); have F : Aside0 (PB w0 w w5 g g5 s (i : Int) pv 0 0 0 0 0 0) := ⟨⟨below_step HB.out hb, blk_below HG.out hb, hbox, HK.out.trans (KeepBut.of_below hb g none) (.inl rfl), (by rw [hg5]; exact Nat.ne_of_lt (blk_lt HG.out)), (by rw [hg5]; exact keep_size HK.out), HW.out, HGE.out⟩⟩; clear hb hbox hg5 HB HG HK; obtain ⟨gc0, gc1, gf1⟩ := F.out.cells) | ((with_reducible refine gate_store (t := 72) (p := 5) (v := .tmp 7) rfl ?_); obtain ⟨r0, r1, r2, r3, r4, r5⟩ := froz F.out.hP; obtain ⟨q0, q1, q2, q3, q4, q5⟩ := p6_cells F.out.hP; refine store_event (w1 := ?wwwa) ?hgwa rfl rfl ?hrwa ?_; (case hgwa => rfl); (case hrwa => go_simp; rfl); intro wa hw; clear r0 r1 r2 r3 r4 r5 q0 q1 q2 q3 q4 q5; (try clear gc0 gc1 gf1); have hF_ : PB w0 w wa g g5 s (i : Int) pv 0 0 (-1) (-1) 0 0 := (by rw [hw]; exact ((((((F.out.set 0 (.int .i64 0) rfl).set 1 (.int .i64 0) rfl).set 2 (.int .i64 (-1)) rfl).set 3 (.int .i64 (-1)) rfl).set 4 (.int .i64 0) rfl).set 5 (.int .i64 0) rfl)); replace F := Aside0.mk hF_; clear hF_ hw; obtain ⟨gc0, gc1, gf1⟩ := F.out.cells) | (go_at_call 46; (with_reducible refine (topo_reader_number.calls (s.size + 1) g s (i : Int) pv 41 (i : Int) (dg s i : Int) 0 s (dg s i : Int) w0 _ F.out.inn F.out.below N1.out).mono ?_); rintro e wb ⟨rfl, hi_, hb_, hk_⟩; (try clear gc0 gc1 gf1); replace F := Aside0.mk (F.out.on hi_ hb_ hk_); clear hi_ hb_ hk_; obtain ⟨gc0, gc1, gf1⟩ := F.out.cells) | ((with_reducible refine gate_store (t := 70) (p := 13) (v := .tmp 11) rfl ?_); obtain ⟨r0, r1, r2, r3, r4, r5⟩ := froz F.out.hP; obtain ⟨q0, q1, q2, q3, q4, q5⟩ := p6_cells F.out.hP; refine store_event (w1 := ?wwwc) ?hgwc rfl rfl ?hrwc ?_; (case hgwc => rfl); (case hrwc => go_simp; rfl); intro wc hw; clear r0 r1 r2 r3 r4 r5 q0 q1 q2 q3 q4 q5; (try clear gc0 gc1 gf1); have hF_ : PB w0 w wc g g5 s (dg s i : Int) pv (i : Int) (dg s i : Int) (-1) (-1) 0 0 := (by rw [hw]; exact ((F.out.set 0 (.int .i64 (i : Int)) rfl).set 1 (.int .i64 (dg s i : Int)) rfl)); replace F := Aside0.mk hF_; clear hF_ hw; obtain ⟨gc0, gc1, gf1⟩ := F.out.cells) | (go_at_call 42; (with_reducible refine (topo_reader_next.calls g s (dg s i : Int) pv ⟨#[42]⟩ true s (dg s i : Int) w0 _ F.out.inn F.out.below N2.out).mono ?_); rintro e wd ⟨rfl, hi_, hb_, hk_⟩; (try clear gc0 gc1 gf1); replace F := Aside0.mk (F.out.on hi_ hb_ hk_); clear hi_ hb_ hk_; obtain ⟨gc0, gc1, gf1⟩ := F.out.cells) | ((with_reducible refine gate_store (t := 3) (p := 26) (v := .tmp 25) rfl ?_); obtain ⟨r0, r1, r2, r3, r4, r5⟩ := froz F.out.hP; obtain ⟨q0, q1, q2, q3, q4, q5⟩ := p6_cells F.out.hP; refine store_event (w1 := ?wwwe) ?hgwe rfl rfl ?hrwe ?_; (case hgwe => rfl); (case hrwe => go_simp; rfl); intro we hw; clear r0 r1 r2 r3 r4 r5 q0 q1 q2 q3 q4 q5; (try clear gc0 gc1 gf1); have hF_ : PB w0 w we g g5 s (dg s i : Int) pv (i : Int) (dg s i : Int) (dg s i : Int) (-1) 0 0 := (by rw [hw]; exact (F.out.set 2 (.int .i64 (dg s i : Int)) rfl)); replace F := Aside0.mk hF_; clear hF_ hw; obtain ⟨gc0, gc1, gf1⟩ := F.out.cells) | ((with_reducible refine gate_store (t := 3) (p := 33) (v := .tmp 31) rfl ?_); refine store_event (w1 := ?wwwf) ?hgwf rfl rfl ?hrwf ?_; (case hgwf => rfl); (case hrwf => go_simp; rfl); intro wf hw; (try clear gc0 gc1 gf1); have hF_ : PB w0 w wf g g5 s ((dg s i : Int) + 1) pv (i : Int) (dg s i : Int) (dg s i : Int) (-1) 0 0 := (by rw [hw, HWS.out]; exact F.out.inc _); replace F := Aside0.mk hF_; clear hF_ hw; obtain ⟨gc0, gc1, gf1⟩ := F.out.cells) | (go_at_call 42; (with_reducible refine (topo_reader_next.calls g s ((dg s i : Int) + 1) pv ⟨#[43, 45]⟩ true s ((dg s i : Int) + 1) w0 _ F.out.inn F.out.below N3.out).mono ?_); rintro e wg ⟨rfl, hi_, hb_, hk_⟩; (try clear gc0 gc1 gf1); replace F := Aside0.mk (F.out.on hi_ hb_ hk_); clear hi_ hb_ hk_; obtain ⟨gc0, gc1, gf1⟩ := F.out.cells) | ((with_reducible refine gate_store (t := 3) (p := 43) (v := .tmp 42) rfl ?_); obtain ⟨r0, r1, r2, r3, r4, r5⟩ := froz F.out.hP; obtain ⟨q0, q1, q2, q3, q4, q5⟩ := p6_cells F.out.hP; refine store_event (w1 := ?wwwh) ?hgwh rfl rfl ?hrwh ?_; (case hgwh => rfl); (case hrwh => go_simp; rfl); intro wh hw; clear r0 r1 r2 r3 r4 r5 q0 q1 q2 q3 q4 q5; (try clear gc0 gc1 gf1); have hF_ : PB w0 w wh g g5 s ((dg s i : Int) + 1) pv (i : Int) (dg s i : Int) (dg s i : Int) ((dg s i : Int) + 1) 0 0 := (by rw [hw]; exact (F.out.set 3 (.int .i64 ((dg s i : Int) + 1)) rfl)); replace F := Aside0.mk hF_; clear hF_ hw; obtain ⟨gc0, gc1, gf1⟩ := F.out.cells) | ((with_reducible refine gate_store (t := 3) (p := 50) (v := .tmp 48) rfl ?_); refine store_event (w1 := ?wwwi) ?hgwi rfl rfl ?hrwi ?_; (case hgwi => rfl); (case hrwi => go_simp; rfl); intro wi hw; (try clear gc0 gc1 gf1); have hF_ : PB w0 w wi g g5 s (((dg s i : Int) + 1) + 1) pv (i : Int) (dg s i : Int) (dg s i : Int) ((dg s i : Int) + 1) 0 0 := (by rw [hw, HWG.out]; exact F.out.inc _); replace F := Aside0.mk hF_; clear hF_ hw; obtain ⟨gc0, gc1, gf1⟩ := F.out.cells) | (go_at_call 46; (with_reducible refine (topo_reader_number.calls (s.size + 1) g s (((dg s i : Int) + 1) + 1) pv 43 (((dg s i : Int) + 1) + 1) (tt : Int) 0 s (tt : Int) w0 _ F.out.inn F.out.below N4.out).mono ?_); rintro e wj ⟨rfl, hi_, hb_, hk_⟩; (try clear gc0 gc1 gf1); replace F := Aside0.mk (F.out.on hi_ hb_ hk_); clear hi_ hb_ hk_; obtain ⟨gc0, gc1, gf1⟩ := F.out.cells) | ((with_reducible refine gate_store (t := 70) (p := 56) (v := .tmp 54) rfl ?_); obtain ⟨r0, r1, r2, r3, r4, r5⟩ := froz F.out.hP; obtain ⟨q0, q1, q2, q3, q4, q5⟩ := p6_cells F.out.hP; refine store_event (w1 := ?wwwk) ?hgwk rfl rfl ?hrwk ?_; (case hgwk => rfl); (case hrwk => go_simp; rfl); intro wk hw; clear r0 r1 r2 r3 r4 r5 q0 q1 q2 q3 q4 q5; (try clear gc0 gc1 gf1); have hF_ : PB w0 w wk g g5 s (tt : Int) pv (i : Int) (dg s i : Int) (dg s i : Int) ((dg s i : Int) + 1) (((dg s i : Int) + 1) + 1) (tt : Int) := (by rw [hw]; exact ((F.out.set 4 (.int .i64 (((dg s i : Int) + 1) + 1)) rfl).set 5 (.int .i64 (tt : Int)) rfl)); replace F := Aside0.mk hF_; clear hF_ hw; obtain ⟨gc0, gc1, gf1⟩ := F.out.cells))
  (try clear gc0 gc1 gf1)
  have HG := Aside0.mk F.out.hG
  have HP := Aside0.mk F.out.hP
  have HK := Aside0.mk F.out.hK
  have HB := Aside0.mk F.out.below
  have NE := Aside0.mk F.out.ne
  have G5 := Aside0.mk F.out.G5
  clear F
  have HR2 := Aside0.mk (Kd.R_drew (Kd.R_mono (ok' := fun k => True ∧ k ≠ g ∧ k ≠ g5) (Kd.R_keep (Kd.R_bound HR.out) HK.out (fun _ hk => hk.1.2)) (fun k hk => ⟨trivial, hk.1.2, by have := hk.2.2.1; have := G5.out; omega⟩)))
  refine start_ (n := 11) (S := fun w' => w'.cell? ⟨g, 2, none⟩ = some pv ∧ w'.cell? ⟨g5, 0, none⟩ = some (.int .i64 (i : Int)) ∧ w'.cell? ⟨g5, 1, none⟩ = some (.int .i64 (dg s i : Int)) ∧ w'.cell? ⟨g5, 2, none⟩ = some (.int .i64 (dg s i : Int)) ∧ w'.cell? ⟨g5, 3, none⟩ = some (.int .i64 ((dg s i : Int) + 1)) ∧ w'.cell? ⟨g5, 4, none⟩ = some (.int .i64 (((dg s i : Int) + 1) + 1)) ∧ w'.cell? ⟨g5, 5, none⟩ = some (.int .i64 (tt : Int))) (ds := [10]) #[false, false, false, false, false, false, false, false, false, false, false] (by kernel_rfl) rfl rfl ⟨(blk_cell HG.out 2).trans rfl, (blk_cell HP.out 0).trans rfl, (blk_cell HP.out 1).trans rfl, (blk_cell HP.out 2).trans rfl, (blk_cell HP.out 3).trans rfl, (blk_cell HP.out 4).trans rfl, (blk_cell HP.out 5).trans rfl⟩ (fun hHeld => ?_)
  have HG' := Aside0.mk (blk_drew HG.out)
  have HP' := Aside0.mk (blk_drew HP.out)
  have HK' := Aside0.mk (keep_drew HK.out)
  have HB' := Aside0.mk (below_drew1 HB.out)
  clear HG HP HK HB
  generalize wk.drew = wx at HG' HP' HK' HB' HR2 hHeld ⊢
  have HG := HG'
  have HP := HP'
  have HK := HK'
  have HB := HB'
  clear HG' HP' HK' HB'
  have GLT := Aside0.mk (blk_lt HG.out)
  have HKS := Aside0.mk (show w.heap.size ≤ wx.heap.size from HK.out.1)
  refine pure_ (i := 0) (N := (some 60)) (v := ?_) (a' := ?_) #[true, false, false, false, false, false, false, false, false, false, false] rfl rfl (by kernel_rfl) (fun _ _ _ h => h) (Or.inl ⟨by rfl, ?_⟩) ?_ ?_
  rotate_left
  · intro w'
    go_simp
    with_reducible rfl
  rotate_left
  · simp only [Act.put, List.setIfInBounds_toArray, List.set_cons_zero, List.set_cons_succ, i64_w, i32_w]
    rfl
  refine pure_ (i := 1) (N := (some 61)) (v := ?_) (a' := ?_) #[true, true, false, false, false, false, false, false, false, false, false] rfl rfl (by kernel_rfl) (fun _ _ _ h => h) (Or.inl ⟨by rfl, ?_⟩) ?_ ?_
  rotate_left
  · intro w'
    go_simp
    with_reducible rfl
  rotate_left
  · simp only [Act.put, List.setIfInBounds_toArray, List.set_cons_zero, List.set_cons_succ, i64_w, i32_w]
    rfl
  refine pure_ (i := 2) (N := (some 62)) (v := ?_) (a' := ?_) #[true, true, true, false, false, false, false, false, false, false, false] rfl rfl (by kernel_rfl) (fun _ _ _ h => h) (Or.inl ⟨by rfl, ?_⟩) ?_ ?_
  rotate_left
  · intro w'
    go_simp
    with_reducible rfl
  rotate_left
  · simp only [Act.put, List.setIfInBounds_toArray, List.set_cons_zero, List.set_cons_succ, i64_w, i32_w]
    rfl
  refine pure_ (i := 3) (N := (some 63)) (v := ?_) (a' := ?_) #[true, true, true, true, false, false, false, false, false, false, false] rfl rfl (by kernel_rfl) (fun _ _ _ h => h) (Or.inl ⟨by rfl, ?_⟩) ?_ ?_
  rotate_left
  · intro w'
    go_simp
    with_reducible rfl
  rotate_left
  · simp only [Act.put, List.setIfInBounds_toArray, List.set_cons_zero, List.set_cons_succ, i64_w, i32_w]
    rfl
  refine take_ (i := 4) (N := (some 64)) (v := ?_) (a' := ?_) #[true, true, true, true, true, false, false, false, false, false, false] rfl rfl (by kernel_rfl) (fun _ _ _ h => h) (Or.inl ⟨by rfl, ?_⟩) hHeld ?_ ?_
  rotate_left
  · rintro w' ⟨s0, s1, s2, s3, s4, s5, s6⟩
    go_simp
    with_reducible rfl
  rotate_left
  · simp only [Act.put, List.setIfInBounds_toArray, List.set_cons_zero, List.set_cons_succ, i64_w, i32_w]
    rfl
  refine take_ (i := 5) (N := (some 65)) (v := ?_) (a' := ?_) #[true, true, true, true, true, true, false, false, false, false, false] rfl rfl (by kernel_rfl) (fun _ _ _ h => h) (Or.inl ⟨by rfl, ?_⟩) hHeld ?_ ?_
  rotate_left
  · rintro w' ⟨s0, s1, s2, s3, s4, s5, s6⟩
    go_simp
    with_reducible rfl
  rotate_left
  · simp only [Act.put, List.setIfInBounds_toArray, List.set_cons_zero, List.set_cons_succ, i64_w, i32_w]
    rfl
  have GLP := Aside0.mk (blk_lt HP.out)
  refine one_ (i := 6) (N := (some 66)) #[true, true, true, true, true, true, true, false, false, false, false] rfl rfl (by kernel_rfl) (by decide) (fun K hK => ?_)
  refine value_ (v := .slice (some ⟨wx.heap.size, 0, none⟩) 1 1) (w1 := wx.alloc (.cells #[.int .i64 (i : Int), .int .i64 (dg s i : Int), .int .i64 (dg s i : Int), .int .i64 ((dg s i : Int) + 1), .int .i64 (((dg s i : Int) + 1) + 1), .int .i64 (tt : Int)] 72)) (by rfl) rfl ?_ ?_
  · first | (go_simp; done) | (go_simp; rfl)
  refine hK.out _ _ ⟨(World.cell?_alloc_lt _ _ _ (World.block_lt_of_cell? _ _ hHeld.1)).trans hHeld.1, (World.cell?_alloc_lt _ _ _ (World.block_lt_of_cell? _ _ hHeld.2.1)).trans hHeld.2.1, (World.cell?_alloc_lt _ _ _ (World.block_lt_of_cell? _ _ hHeld.2.2.1)).trans hHeld.2.2.1, (World.cell?_alloc_lt _ _ _ (World.block_lt_of_cell? _ _ hHeld.2.2.2.1)).trans hHeld.2.2.2.1, (World.cell?_alloc_lt _ _ _ (World.block_lt_of_cell? _ _ hHeld.2.2.2.2.1)).trans hHeld.2.2.2.2.1, (World.cell?_alloc_lt _ _ _ (World.block_lt_of_cell? _ _ hHeld.2.2.2.2.2.1)).trans hHeld.2.2.2.2.2.1, (World.cell?_alloc_lt _ _ _ (World.block_lt_of_cell? _ _ hHeld.2.2.2.2.2.2)).trans hHeld.2.2.2.2.2.2⟩ (fun hHeld => ?_)
  clear hK K
  refine one_ (i := 7) (N := (some 67)) #[true, true, true, true, true, true, true, true, false, false, false] rfl rfl (by kernel_rfl) (by decide) (fun K hK => ?_)
  refine Kd.R_append_step k72 (w0 := w0) w0.heap.size (by rfl) (.tmp 64) (.tmp 66) 64 72 z72 48 rfl Tryd.underlying64 info72 rfl (by decide) (by omega) pv ps (⟨⟨(i : Int), (dg s i : Int)⟩, (dg s i : Int), ((dg s i : Int) + 1), ⟨(((dg s i : Int) + 1) + 1), (tt : Int)⟩⟩ : S72) [.int .i64 (i : Int), .int .i64 (dg s i : Int), .int .i64 (dg s i : Int), .int .i64 ((dg s i : Int) + 1), .int .i64 (((dg s i : Int) + 1) + 1), .int .i64 (tt : Int)] (fun k => True ∧ k ≠ g ∧ k ≠ g5) (fun _ => False) rfl ?_ ?_ (fun _ hk => hk.elim) ?_ ?_ ?_ ?_ ?_ ?_
  · rfl
  · exact k72_mkM _ _ _ (⟨⟨(i : Int), (dg s i : Int)⟩, (dg s i : Int), ((dg s i : Int) + 1), ⟨(((dg s i : Int) + 1) + 1), (tt : Int)⟩⟩ : S72)
  · exact fun k hk => ⟨trivial, by have := GLT.out; omega, by have := GLP.out; omega⟩
  · exact HR2.out
  · exact HB.out
  · exact HB.out.size
  · omega
  intro pv1 w1 hr1 hb1 hg1 hat1
  have nG := Kd.R_away (g := g) HR2.out (fun _ hk => hk.2.1)
  have nP := Kd.R_away (g := g5) HR2.out (fun _ hk => hk.2.2)
  refine hK.out _ _ ⟨cell_grown hg1 (cell_unalloc hHeld.1 GLT.out) nG, cell_grown hg1 (cell_unalloc hHeld.2.1 GLP.out) nP, cell_grown hg1 (cell_unalloc hHeld.2.2.1 GLP.out) nP, cell_grown hg1 (cell_unalloc hHeld.2.2.2.1 GLP.out) nP, cell_grown hg1 (cell_unalloc hHeld.2.2.2.2.1 GLP.out) nP, cell_grown hg1 (cell_unalloc hHeld.2.2.2.2.2.1 GLP.out) nP, cell_grown hg1 (cell_unalloc hHeld.2.2.2.2.2.2 GLP.out) nP⟩ (fun hHeld => ?_)
  clear hK K hHeld
  have HR3 := Aside0.mk hr1
  have HG3 := Aside0.mk (blk_grown HG.out hg1 nG)
  have HAT := Aside0.mk hat1
  have HK3 := Aside0.mk (show KeepBut w w1 g pv.ownBlock from (show KeepBut w wx g pv.ownBlock from ⟨HK.out.1, fun k h1 h2 _ => HK.out.2 k h1 h2 (by simp)⟩).trans (KeepBut.of_grown hg1 g) (.inl rfl))
  have HB3 := Aside0.mk hb1
  clear hr1 hb1 hg1 hat1 nG nP HR2 HG HK HB HR HP
  refine pure_ (i := 8) (N := (some 68)) (v := ?_) (a' := ?_) #[true, true, true, true, true, true, true, true, true, false, false] rfl rfl (by kernel_rfl) (fun _ _ _ h => h) (Or.inl ⟨by rfl, ?_⟩) ?_ ?_
  rotate_left
  · intro w'
    go_simp
    with_reducible rfl
  rotate_left
  · simp only [Act.put, List.setIfInBounds_toArray, List.set_cons_zero, List.set_cons_succ, i64_w, i32_w]
    rfl
  refine pure_ (i := 9) (N := (some 69)) (v := ?_) (a' := ?_) #[true, true, true, true, true, true, true, true, true, true, false] rfl rfl (by kernel_rfl) (fun _ _ _ h => h) (Or.inl ⟨by rfl, ?_⟩) ?_ ?_
  rotate_left
  · intro w'
    go_simp
    with_reducible rfl
  rotate_left
  · simp only [Act.put, List.setIfInBounds_toArray, List.set_cons_zero, List.set_cons_succ, i64_w, i32_w]
    rfl
  refine last_ (i := 10) (N := none) #[true, true, true, true, true, true, true, true, true, true, true] rfl rfl (by kernel_rfl) (by decide) (fun K hK => ?_)
  have gc2 := (blk_cell HG3.out 2).trans (show ((#[Value.string s, .int .i64 (tt : Int), pv] : Array Value)[2]?) = some pv from rfl)
  have gf2 := blk_frozen HG3.out 2
  refine skip_ (w1 := w1.setCell ⟨g, 2, none⟩ pv1) (by rfl) rfl ?_ ?_
  · obtain ⟨A1, c1, rfl⟩ := Kd.R_slice HR3.out; first | (go_simp; done) | (go_simp; rfl)
  refine hK.out _ _ ?_
  clear hK K gc2 gf2
  refine done_ (by kernel_rfl) ?_
  try go_wp2
  go_ret
  refine ⟨rfl, pv1, blk_put (cs := #[.string s, .int .i64 (tt : Int), pv]) HG3.out 2 pv1 rfl, ?_, below_set HB3.out HGE.out, KeepBut.set_ HK3.out 2 _, ?_⟩
  · exact Kd.R_mono (Kd.R_far (p := ⟨g, 2, none⟩) HR3.out (fun _ hk => hk.2.1) _) (fun _ _ => trivial)
  · rcases HAT.out with h | ⟨b, h1, h2⟩
    · exact .inl h
    · exact .inr ⟨b, h1, Nat.le_trans HKS.out h2⟩
set_option maxHeartbeats 4000000 in
set_option maxRecDepth 100000 in
theorem f01 (s : ByteArray) (i : Nat) (pv : Value) (ps : List S72) (g : Nat) (w0 w : World) (hs : s.size ≤ 1048576) (hi : i ≤ s.size) (hl : ps.length ≤ 2) (hG : w.heap[g]? = some (.cells #[.string s, .int .i64 (i : Int), pv] 66 (0, 0))) (hge : w0.heap.size ≤ g) (hR : Kd.R k72 72 w w0.heap.size (fun _ => True) pv ps) (hB : Below w0.heap.size w0 w)
    (n1 : dg s i ≠ i) (n2 : nxt s (dg s i) [42] = false) (n3 : nxt s (dg s i) [43, 45] = true) (n5 : dg s ((dg s i) + 1) = (dg s i) + 1) :
    Calls Tryd.prog 41 #[.pointer (some ⟨g, 0, none⟩), .bool true] w fun e w' => e = .returned (.int .i64 43) ∧ After w0 w w' g s ((dg s i : Int) + 1) pv ps := by
  have HR := Aside0.mk (Kd.R_types hR hG (g := g) (by decide))
  have HW := Aside0.mk hB.size
  have HG := Aside0.mk hG
  have HGE := Aside0.mk hge
  have HB := Aside0.mk hB
  have HK := Aside0.mk (KeepBut.refl w g none)
  have hu := Tryd.underlying72
  have hv := Tryd.underlying70
  have gc0 := (blk_cell HG.out 0).trans (show ((#[Value.string s, .int .i64 (i : Int), pv] : Array Value)[0]?) = some (Value.string s) from rfl)
  have gc1 := (blk_cell HG.out 1).trans (show ((#[Value.string s, .int .i64 (i : Int), pv] : Array Value)[1]?) = some (Value.int .i64 (i : Int)) from rfl)
  have gf1 := blk_frozen HG.out 1
  have N1 := Aside0.mk (number_ok 41 s pv hs i hi n1)
  have hd1 := dg_le hi
  have N2 := Aside0.mk (n2 ▸ next_star s pv (dg s i))
  have N3 : Aside0 (topo_reader_next.f s (dg s i : Int) pv ⟨#[43, 45]⟩ = some (true, s, (dg s i : Int))) := ⟨by have h_ := next_sign s pv (dg s i); rw [n3] at h_; exact h_⟩
  have hl2 : (dg s i) < s.size := by unfold nxt at n3; simp only [Bool.and_eq_true, decide_eq_true_eq] at n3; exact n3.1
  have HWG := Aside0.mk (show wrap64 ((dg s i : Int) + 1) = (dg s i : Int) + 1 by unfold wrap64; omega)
  have N4 : Aside0 (topo_reader_number.f (s.size + 1) s ((dg s i : Int) + 1) pv 43 = some ((dg s i : Int) + 1, ((dg s i : Int) + 1), 43, s, ((dg s i : Int) + 1))) := ⟨by have h_ := number_bad 43 s pv hs ((dg s i) + 1) (by omega) (by first | exact n5 | (rw [n5]; exact n6)); exact h_⟩
  clear hd1
  clear hl2
  clear hG hge hR hB n1 n2 n3 n5
  go_enter Tryd.func41, Tryd.ntmps41
  go_wp2_with (first | ((with_reducible refine gate_dst (N := 5) rfl ?_); refine box_event ?hg (N := 5) ?hd (cs := #[.int .i64 0, .int .i64 0, .int .i64 0, .int .i64 0, .int .i64 0, .int .i64 0]) (t := 72) ?hr ?_; (case hd => rfl); (case hg => rfl); (case hr => first | (go_simp; done) | (go_simp; rfl)); intro g5 hg5 w5 hbox hb; (try clear gc0 gc1 gf1); have F : Aside0 (PB w0 w w5 g g5 s (i : Int) pv 0 0 0 0 0 0) := ⟨⟨below_step HB.out hb, blk_below HG.out hb, hbox, HK.out.trans (KeepBut.of_below hb g none) (.inl rfl), (by rw [hg5]; exact Nat.ne_of_lt (blk_lt HG.out)), (by rw [hg5]; exact keep_size HK.out), HW.out, HGE.out⟩⟩; clear hb hbox hg5 HB HG HK; obtain ⟨gc0, gc1, gf1⟩ := F.out.cells) | ((with_reducible refine gate_store (t := 72) (p := 5) (v := .tmp 7) rfl ?_); obtain ⟨r0, r1, r2, r3, r4, r5⟩ := froz F.out.hP; obtain ⟨q0, q1, q2, q3, q4, q5⟩ := p6_cells F.out.hP; refine store_event (w1 := ?wwwa) ?hgwa rfl rfl ?hrwa ?_; (case hgwa => rfl); (case hrwa => go_simp; rfl); intro wa hw; clear r0 r1 r2 r3 r4 r5 q0 q1 q2 q3 q4 q5; (try clear gc0 gc1 gf1); have hF_ : PB w0 w wa g g5 s (i : Int) pv 0 0 (-1) (-1) 0 0 := (by rw [hw]; exact ((((((F.out.set 0 (.int .i64 0) rfl).set 1 (.int .i64 0) rfl).set 2 (.int .i64 (-1)) rfl).set 3 (.int .i64 (-1)) rfl).set 4 (.int .i64 0) rfl).set 5 (.int .i64 0) rfl)); replace F := Aside0.mk hF_; clear hF_ hw; obtain ⟨gc0, gc1, gf1⟩ := F.out.cells) | (go_at_call 46; (with_reducible refine (topo_reader_number.calls (s.size + 1) g s (i : Int) pv 41 (i : Int) (dg s i : Int) 0 s (dg s i : Int) w0 _ F.out.inn F.out.below N1.out).mono ?_); rintro e wb ⟨rfl, hi_, hb_, hk_⟩; (try clear gc0 gc1 gf1); replace F := Aside0.mk (F.out.on hi_ hb_ hk_); clear hi_ hb_ hk_; obtain ⟨gc0, gc1, gf1⟩ := F.out.cells) | ((with_reducible refine gate_store (t := 70) (p := 13) (v := .tmp 11) rfl ?_); obtain ⟨r0, r1, r2, r3, r4, r5⟩ := froz F.out.hP; obtain ⟨q0, q1, q2, q3, q4, q5⟩ := p6_cells F.out.hP; refine store_event (w1 := ?wwwc) ?hgwc rfl rfl ?hrwc ?_; (case hgwc => rfl); (case hrwc => go_simp; rfl); intro wc hw; clear r0 r1 r2 r3 r4 r5 q0 q1 q2 q3 q4 q5; (try clear gc0 gc1 gf1); have hF_ : PB w0 w wc g g5 s (dg s i : Int) pv (i : Int) (dg s i : Int) (-1) (-1) 0 0 := (by rw [hw]; exact ((F.out.set 0 (.int .i64 (i : Int)) rfl).set 1 (.int .i64 (dg s i : Int)) rfl)); replace F := Aside0.mk hF_; clear hF_ hw; obtain ⟨gc0, gc1, gf1⟩ := F.out.cells) | (go_at_call 42; (with_reducible refine (topo_reader_next.calls g s (dg s i : Int) pv ⟨#[42]⟩ false s (dg s i : Int) w0 _ F.out.inn F.out.below N2.out).mono ?_); rintro e wd ⟨rfl, hi_, hb_, hk_⟩; (try clear gc0 gc1 gf1); replace F := Aside0.mk (F.out.on hi_ hb_ hk_); clear hi_ hb_ hk_; obtain ⟨gc0, gc1, gf1⟩ := F.out.cells) | (go_at_call 42; (with_reducible refine (topo_reader_next.calls g s (dg s i : Int) pv ⟨#[43, 45]⟩ true s (dg s i : Int) w0 _ F.out.inn F.out.below N3.out).mono ?_); rintro e wg ⟨rfl, hi_, hb_, hk_⟩; (try clear gc0 gc1 gf1); replace F := Aside0.mk (F.out.on hi_ hb_ hk_); clear hi_ hb_ hk_; obtain ⟨gc0, gc1, gf1⟩ := F.out.cells) | ((with_reducible refine gate_store (t := 3) (p := 43) (v := .tmp 42) rfl ?_); obtain ⟨r0, r1, r2, r3, r4, r5⟩ := froz F.out.hP; obtain ⟨q0, q1, q2, q3, q4, q5⟩ := p6_cells F.out.hP; refine store_event (w1 := ?wwwh) ?hgwh rfl rfl ?hrwh ?_; (case hgwh => rfl); (case hrwh => go_simp; rfl); intro wh hw; clear r0 r1 r2 r3 r4 r5 q0 q1 q2 q3 q4 q5; (try clear gc0 gc1 gf1); have hF_ : PB w0 w wh g g5 s (dg s i : Int) pv (i : Int) (dg s i : Int) (-1) (dg s i : Int) 0 0 := (by rw [hw]; exact (F.out.set 3 (.int .i64 (dg s i : Int)) rfl)); replace F := Aside0.mk hF_; clear hF_ hw; obtain ⟨gc0, gc1, gf1⟩ := F.out.cells) | ((with_reducible refine gate_store (t := 3) (p := 50) (v := .tmp 48) rfl ?_); refine store_event (w1 := ?wwwi) ?hgwi rfl rfl ?hrwi ?_; (case hgwi => rfl); (case hrwi => go_simp; rfl); intro wi hw; (try clear gc0 gc1 gf1); have hF_ : PB w0 w wi g g5 s ((dg s i : Int) + 1) pv (i : Int) (dg s i : Int) (-1) (dg s i : Int) 0 0 := (by rw [hw, HWG.out]; exact F.out.inc _); replace F := Aside0.mk hF_; clear hF_ hw; obtain ⟨gc0, gc1, gf1⟩ := F.out.cells) | (go_at_call 46; (with_reducible refine (topo_reader_number.calls (s.size + 1) g s ((dg s i : Int) + 1) pv 43 ((dg s i : Int) + 1) ((dg s i : Int) + 1) 43 s ((dg s i : Int) + 1) w0 _ F.out.inn F.out.below N4.out).mono ?_); rintro e wj ⟨rfl, hi_, hb_, hk_⟩; (try clear gc0 gc1 gf1); replace F := Aside0.mk (F.out.on hi_ hb_ hk_); clear hi_ hb_ hk_; obtain ⟨gc0, gc1, gf1⟩ := F.out.cells) | ((with_reducible refine gate_store (t := 70) (p := 56) (v := .tmp 54) rfl ?_); obtain ⟨r0, r1, r2, r3, r4, r5⟩ := froz F.out.hP; obtain ⟨q0, q1, q2, q3, q4, q5⟩ := p6_cells F.out.hP; refine store_event (w1 := ?wwwk) ?hgwk rfl rfl ?hrwk ?_; (case hgwk => rfl); (case hrwk => go_simp; rfl); intro wk hw; clear r0 r1 r2 r3 r4 r5 q0 q1 q2 q3 q4 q5; (try clear gc0 gc1 gf1); have hF_ : PB w0 w wk g g5 s ((dg s i : Int) + 1) pv (i : Int) (dg s i : Int) (-1) (dg s i : Int) ((dg s i : Int) + 1) ((dg s i : Int) + 1) := (by rw [hw]; exact ((F.out.set 4 (.int .i64 ((dg s i : Int) + 1)) rfl).set 5 (.int .i64 ((dg s i : Int) + 1)) rfl)); replace F := Aside0.mk hF_; clear hF_ hw; obtain ⟨gc0, gc1, gf1⟩ := F.out.cells))
  go_ret
  exact ⟨rfl, Afterkeep HR.out F.out.hG F.out.below F.out.hK⟩
set_option maxHeartbeats 4000000 in
set_option maxRecDepth 100000 in
theorem f11 (s : ByteArray) (i : Nat) (pv : Value) (ps : List S72) (g : Nat) (w0 w : World) (hs : s.size ≤ 1048576) (hi : i ≤ s.size) (hl : ps.length ≤ 2) (hG : w.heap[g]? = some (.cells #[.string s, .int .i64 (i : Int), pv] 66 (0, 0))) (hge : w0.heap.size ≤ g) (hR : Kd.R k72 72 w w0.heap.size (fun _ => True) pv ps) (hB : Below w0.heap.size w0 w)
    (n1 : dg s i ≠ i) (n2 : nxt s (dg s i) [42] = true) (n3 : nxt s (dg s i + 1) [43, 45] = true) (n5 : dg s ((dg s i + 1) + 1) = (dg s i + 1) + 1) :
    Calls Tryd.prog 41 #[.pointer (some ⟨g, 0, none⟩), .bool true] w fun e w' => e = .returned (.int .i64 43) ∧ After w0 w w' g s (((dg s i : Int) + 1) + 1) pv ps := by
  have HR := Aside0.mk (Kd.R_types hR hG (g := g) (by decide))
  have HW := Aside0.mk hB.size
  have HG := Aside0.mk hG
  have HGE := Aside0.mk hge
  have HB := Aside0.mk hB
  have HK := Aside0.mk (KeepBut.refl w g none)
  have hu := Tryd.underlying72
  have hv := Tryd.underlying70
  have gc0 := (blk_cell HG.out 0).trans (show ((#[Value.string s, .int .i64 (i : Int), pv] : Array Value)[0]?) = some (Value.string s) from rfl)
  have gc1 := (blk_cell HG.out 1).trans (show ((#[Value.string s, .int .i64 (i : Int), pv] : Array Value)[1]?) = some (Value.int .i64 (i : Int)) from rfl)
  have gf1 := blk_frozen HG.out 1
  have N1 := Aside0.mk (number_ok 41 s pv hs i hi n1)
  have hd1 := dg_le hi
  have N2 := Aside0.mk (n2 ▸ next_star s pv (dg s i))
  have hl1 : dg s i < s.size := by unfold nxt at n2; simp only [Bool.and_eq_true, decide_eq_true_eq] at n2; exact n2.1
  have HWS := Aside0.mk (show wrap64 ((dg s i : Int) + 1) = (dg s i : Int) + 1 by unfold wrap64; omega)
  have N3 : Aside0 (topo_reader_next.f s ((dg s i : Int) + 1) pv ⟨#[43, 45]⟩ = some (true, s, ((dg s i : Int) + 1))) := ⟨by have h_ := next_sign s pv (dg s i + 1); rw [n3] at h_; exact h_⟩
  have hl2 : (dg s i + 1) < s.size := by unfold nxt at n3; simp only [Bool.and_eq_true, decide_eq_true_eq] at n3; exact n3.1
  have HWG := Aside0.mk (show wrap64 (((dg s i : Int) + 1) + 1) = ((dg s i : Int) + 1) + 1 by unfold wrap64; omega)
  have N4 : Aside0 (topo_reader_number.f (s.size + 1) s (((dg s i : Int) + 1) + 1) pv 43 = some (((dg s i : Int) + 1) + 1, (((dg s i : Int) + 1) + 1), 43, s, (((dg s i : Int) + 1) + 1))) := ⟨by have h_ := number_bad 43 s pv hs ((dg s i + 1) + 1) (by omega) (by first | exact n5 | (rw [n5]; exact n6)); exact h_⟩
  clear hd1
  clear hl1
  clear hl2
  clear hG hge hR hB n1 n2 n3 n5
  go_enter Tryd.func41, Tryd.ntmps41
  go_wp2_with (first | ((with_reducible refine gate_dst (N := 5) rfl ?_); refine box_event ?hg (N := 5) ?hd (cs := #[.int .i64 0, .int .i64 0, .int .i64 0, .int .i64 0, .int .i64 0, .int .i64 0]) (t := 72) ?hr ?_; (case hd => rfl); (case hg => rfl); (case hr => first | (go_simp; done) | (go_simp; rfl)); intro g5 hg5 w5 hbox hb; (try clear gc0 gc1 gf1); have F : Aside0 (PB w0 w w5 g g5 s (i : Int) pv 0 0 0 0 0 0) := ⟨⟨below_step HB.out hb, blk_below HG.out hb, hbox, HK.out.trans (KeepBut.of_below hb g none) (.inl rfl), (by rw [hg5]; exact Nat.ne_of_lt (blk_lt HG.out)), (by rw [hg5]; exact keep_size HK.out), HW.out, HGE.out⟩⟩; clear hb hbox hg5 HB HG HK; obtain ⟨gc0, gc1, gf1⟩ := F.out.cells) | ((with_reducible refine gate_store (t := 72) (p := 5) (v := .tmp 7) rfl ?_); obtain ⟨r0, r1, r2, r3, r4, r5⟩ := froz F.out.hP; obtain ⟨q0, q1, q2, q3, q4, q5⟩ := p6_cells F.out.hP; refine store_event (w1 := ?wwwa) ?hgwa rfl rfl ?hrwa ?_; (case hgwa => rfl); (case hrwa => go_simp; rfl); intro wa hw; clear r0 r1 r2 r3 r4 r5 q0 q1 q2 q3 q4 q5; (try clear gc0 gc1 gf1); have hF_ : PB w0 w wa g g5 s (i : Int) pv 0 0 (-1) (-1) 0 0 := (by rw [hw]; exact ((((((F.out.set 0 (.int .i64 0) rfl).set 1 (.int .i64 0) rfl).set 2 (.int .i64 (-1)) rfl).set 3 (.int .i64 (-1)) rfl).set 4 (.int .i64 0) rfl).set 5 (.int .i64 0) rfl)); replace F := Aside0.mk hF_; clear hF_ hw; obtain ⟨gc0, gc1, gf1⟩ := F.out.cells) | (go_at_call 46; (with_reducible refine (topo_reader_number.calls (s.size + 1) g s (i : Int) pv 41 (i : Int) (dg s i : Int) 0 s (dg s i : Int) w0 _ F.out.inn F.out.below N1.out).mono ?_); rintro e wb ⟨rfl, hi_, hb_, hk_⟩; (try clear gc0 gc1 gf1); replace F := Aside0.mk (F.out.on hi_ hb_ hk_); clear hi_ hb_ hk_; obtain ⟨gc0, gc1, gf1⟩ := F.out.cells) | ((with_reducible refine gate_store (t := 70) (p := 13) (v := .tmp 11) rfl ?_); obtain ⟨r0, r1, r2, r3, r4, r5⟩ := froz F.out.hP; obtain ⟨q0, q1, q2, q3, q4, q5⟩ := p6_cells F.out.hP; refine store_event (w1 := ?wwwc) ?hgwc rfl rfl ?hrwc ?_; (case hgwc => rfl); (case hrwc => go_simp; rfl); intro wc hw; clear r0 r1 r2 r3 r4 r5 q0 q1 q2 q3 q4 q5; (try clear gc0 gc1 gf1); have hF_ : PB w0 w wc g g5 s (dg s i : Int) pv (i : Int) (dg s i : Int) (-1) (-1) 0 0 := (by rw [hw]; exact ((F.out.set 0 (.int .i64 (i : Int)) rfl).set 1 (.int .i64 (dg s i : Int)) rfl)); replace F := Aside0.mk hF_; clear hF_ hw; obtain ⟨gc0, gc1, gf1⟩ := F.out.cells) | (go_at_call 42; (with_reducible refine (topo_reader_next.calls g s (dg s i : Int) pv ⟨#[42]⟩ true s (dg s i : Int) w0 _ F.out.inn F.out.below N2.out).mono ?_); rintro e wd ⟨rfl, hi_, hb_, hk_⟩; (try clear gc0 gc1 gf1); replace F := Aside0.mk (F.out.on hi_ hb_ hk_); clear hi_ hb_ hk_; obtain ⟨gc0, gc1, gf1⟩ := F.out.cells) | ((with_reducible refine gate_store (t := 3) (p := 26) (v := .tmp 25) rfl ?_); obtain ⟨r0, r1, r2, r3, r4, r5⟩ := froz F.out.hP; obtain ⟨q0, q1, q2, q3, q4, q5⟩ := p6_cells F.out.hP; refine store_event (w1 := ?wwwe) ?hgwe rfl rfl ?hrwe ?_; (case hgwe => rfl); (case hrwe => go_simp; rfl); intro we hw; clear r0 r1 r2 r3 r4 r5 q0 q1 q2 q3 q4 q5; (try clear gc0 gc1 gf1); have hF_ : PB w0 w we g g5 s (dg s i : Int) pv (i : Int) (dg s i : Int) (dg s i : Int) (-1) 0 0 := (by rw [hw]; exact (F.out.set 2 (.int .i64 (dg s i : Int)) rfl)); replace F := Aside0.mk hF_; clear hF_ hw; obtain ⟨gc0, gc1, gf1⟩ := F.out.cells) | ((with_reducible refine gate_store (t := 3) (p := 33) (v := .tmp 31) rfl ?_); refine store_event (w1 := ?wwwf) ?hgwf rfl rfl ?hrwf ?_; (case hgwf => rfl); (case hrwf => go_simp; rfl); intro wf hw; (try clear gc0 gc1 gf1); have hF_ : PB w0 w wf g g5 s ((dg s i : Int) + 1) pv (i : Int) (dg s i : Int) (dg s i : Int) (-1) 0 0 := (by rw [hw, HWS.out]; exact F.out.inc _); replace F := Aside0.mk hF_; clear hF_ hw; obtain ⟨gc0, gc1, gf1⟩ := F.out.cells) | (go_at_call 42; (with_reducible refine (topo_reader_next.calls g s ((dg s i : Int) + 1) pv ⟨#[43, 45]⟩ true s ((dg s i : Int) + 1) w0 _ F.out.inn F.out.below N3.out).mono ?_); rintro e wg ⟨rfl, hi_, hb_, hk_⟩; (try clear gc0 gc1 gf1); replace F := Aside0.mk (F.out.on hi_ hb_ hk_); clear hi_ hb_ hk_; obtain ⟨gc0, gc1, gf1⟩ := F.out.cells) | ((with_reducible refine gate_store (t := 3) (p := 43) (v := .tmp 42) rfl ?_); obtain ⟨r0, r1, r2, r3, r4, r5⟩ := froz F.out.hP; obtain ⟨q0, q1, q2, q3, q4, q5⟩ := p6_cells F.out.hP; refine store_event (w1 := ?wwwh) ?hgwh rfl rfl ?hrwh ?_; (case hgwh => rfl); (case hrwh => go_simp; rfl); intro wh hw; clear r0 r1 r2 r3 r4 r5 q0 q1 q2 q3 q4 q5; (try clear gc0 gc1 gf1); have hF_ : PB w0 w wh g g5 s ((dg s i : Int) + 1) pv (i : Int) (dg s i : Int) (dg s i : Int) ((dg s i : Int) + 1) 0 0 := (by rw [hw]; exact (F.out.set 3 (.int .i64 ((dg s i : Int) + 1)) rfl)); replace F := Aside0.mk hF_; clear hF_ hw; obtain ⟨gc0, gc1, gf1⟩ := F.out.cells) | ((with_reducible refine gate_store (t := 3) (p := 50) (v := .tmp 48) rfl ?_); refine store_event (w1 := ?wwwi) ?hgwi rfl rfl ?hrwi ?_; (case hgwi => rfl); (case hrwi => go_simp; rfl); intro wi hw; (try clear gc0 gc1 gf1); have hF_ : PB w0 w wi g g5 s (((dg s i : Int) + 1) + 1) pv (i : Int) (dg s i : Int) (dg s i : Int) ((dg s i : Int) + 1) 0 0 := (by rw [hw, HWG.out]; exact F.out.inc _); replace F := Aside0.mk hF_; clear hF_ hw; obtain ⟨gc0, gc1, gf1⟩ := F.out.cells) | (go_at_call 46; (with_reducible refine (topo_reader_number.calls (s.size + 1) g s (((dg s i : Int) + 1) + 1) pv 43 (((dg s i : Int) + 1) + 1) (((dg s i : Int) + 1) + 1) 43 s (((dg s i : Int) + 1) + 1) w0 _ F.out.inn F.out.below N4.out).mono ?_); rintro e wj ⟨rfl, hi_, hb_, hk_⟩; (try clear gc0 gc1 gf1); replace F := Aside0.mk (F.out.on hi_ hb_ hk_); clear hi_ hb_ hk_; obtain ⟨gc0, gc1, gf1⟩ := F.out.cells) | ((with_reducible refine gate_store (t := 70) (p := 56) (v := .tmp 54) rfl ?_); obtain ⟨r0, r1, r2, r3, r4, r5⟩ := froz F.out.hP; obtain ⟨q0, q1, q2, q3, q4, q5⟩ := p6_cells F.out.hP; refine store_event (w1 := ?wwwk) ?hgwk rfl rfl ?hrwk ?_; (case hgwk => rfl); (case hrwk => go_simp; rfl); intro wk hw; clear r0 r1 r2 r3 r4 r5 q0 q1 q2 q3 q4 q5; (try clear gc0 gc1 gf1); have hF_ : PB w0 w wk g g5 s (((dg s i : Int) + 1) + 1) pv (i : Int) (dg s i : Int) (dg s i : Int) ((dg s i : Int) + 1) (((dg s i : Int) + 1) + 1) (((dg s i : Int) + 1) + 1) := (by rw [hw]; exact ((F.out.set 4 (.int .i64 (((dg s i : Int) + 1) + 1)) rfl).set 5 (.int .i64 (((dg s i : Int) + 1) + 1)) rfl)); replace F := Aside0.mk hF_; clear hF_ hw; obtain ⟨gc0, gc1, gf1⟩ := F.out.cells))
  go_ret
  exact ⟨rfl, Afterkeep HR.out F.out.hG F.out.below F.out.hK⟩
end Go.Proofs.YtmcidodpnhkdfaaDoor.PartWalk
