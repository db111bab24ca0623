/- The reference's Parse, path by path. -/
import Derived.Test.YtmcidodpnhkdfaaPFx4
import Derived.Laws.DeepStrings4
namespace Go.Proofs.Ytmcidodpnhkdfaa.RefWalk
open Go.RowKit Go.Proofs.YtmcidodpnhkdfaaW.PrintWords Go.Proofs.YtmcidodpnhkdfaaW.PrintLast Go.Proofs.YtmcidodpnhkdfaaW.PrintMore Go.Proofs.Ytmcidodpnhkdfaa.ParseSpec Go.Proofs.Ytmcidodpnhkdfaa.PF
set_option linter.unusedVariables false
set_option linter.unusedSimpArgs false
abbrev T5 (a b c d e : Int) : Array Value := #[.int .u8 a, .int .i64 b, .int .i64 c, .int .u8 d, .int .i64 e]
abbrev P6 (a b c d e f : Int) : Array Value := #[.int .i64 a, .int .i64 b, .int .i64 c, .int .i64 d, .int .i64 e, .int .i64 f]
def toR (p : Pt) : S66 := ⟨p.at_, p.en, p.star, p.sign, p.fr, p.to_⟩
theorem t5_cells {W : World} {g t : Nat} {a b c d e : Int} (h : W.heap[g]? = some (.cells (T5 a b c d e) t (0, 0))) :
    W.cell? ⟨g, 0, none⟩ = some (.int .u8 a) ∧ W.cell? ⟨g, 1, none⟩ = some (.int .i64 b) ∧ W.cell? ⟨g, 2, none⟩ = some (.int .i64 c) ∧ W.cell? ⟨g, 3, none⟩ = some (.int .u8 d) ∧ W.cell? ⟨g, 4, none⟩ = some (.int .i64 e) :=
  ⟨(blk_cell h 0).trans rfl, (blk_cell h 1).trans rfl, (blk_cell h 2).trans rfl, (blk_cell h 3).trans rfl, (blk_cell h 4).trans rfl⟩
theorem froz {W : World} {g t : Nat} {cs : Array Value} (h : W.heap[g]? = some (.cells cs t (0, 0))) : W.frozen? ⟨g, 0, none⟩ = false ∧ W.frozen? ⟨g, 1, none⟩ = false ∧ W.frozen? ⟨g, 2, none⟩ = false ∧ W.frozen? ⟨g, 3, none⟩ = false ∧ W.frozen? ⟨g, 4, none⟩ = false ∧ W.frozen? ⟨g, 5, none⟩ = false :=
  ⟨blk_frozen h 0, blk_frozen h 1, blk_frozen h 2, blk_frozen h 3, blk_frozen h 4, blk_frozen h 5⟩
theorem p6_cells {W : World} {g t : Nat} {a b c d e f : Int} (h : W.heap[g]? = some (.cells (P6 a b c d e f) t (0, 0))) :
    W.cell? ⟨g, 0, none⟩ = some (.int .i64 a) ∧ W.cell? ⟨g, 1, none⟩ = some (.int .i64 b) ∧ W.cell? ⟨g, 2, none⟩ = some (.int .i64 c) ∧ W.cell? ⟨g, 3, none⟩ = some (.int .i64 d) ∧ W.cell? ⟨g, 4, none⟩ = some (.int .i64 e) ∧ W.cell? ⟨g, 5, none⟩ = some (.int .i64 f) :=
  ⟨(blk_cell h 0).trans rfl, (blk_cell h 1).trans rfl, (blk_cell h 2).trans rfl, (blk_cell h 3).trans rfl, (blk_cell h 4).trans rfl, (blk_cell h 5).trans rfl⟩
/-- The turn and the shift that the parts say, with any worth. -/
def turnsV (V : Nat → Nat → Int) (s : ByteArray) : List Pt → Int → Int × Int → Int × Int
  | [], _, ts => ts
  | p :: ps, i, ts => turnsV V s ps (i + 1) (if p.star < 0 ∧ p.sign < 0 then ts else (1 + i, if 0 ≤ p.sign then (if bt s p.sign = 45 then -(V p.fr p.to_) else V p.fr p.to_) else ts.2))
/-- A part is inside its text. -/
structure Good (s : ByteArray) (p : Pt) : Prop where
  o1 : p.at_ ≤ p.en
  o2 : p.en ≤ s.size
  o3 : p.fr ≤ p.to_
  o4 : p.to_ ≤ s.size
  o5 : p.sign < 0 ∨ ∃ n : Nat, p.sign = (n : Int) ∧ n < s.size
/-- What is known behind form: the result's block, the topology's, the parts' row. -/
structure K (w W : World) (g2 g7 gp pc : Nat) (l : List S66) (a b c d e : Int) : Prop where
  below : Below w.heap.size w W
  h2 : W.heap[g2]? = some (.cells (T5 0 0 0 0 0) 23 (0, 0))
  h7 : W.heap[g7]? = some (.cells (T5 a b c d e) 23 (0, 0))
  row : Kd.R k66 66 W w.heap.size (fun _ => True) (.slice (some ⟨gp, 0, none⟩) l.length pc) l
  G2 : w.heap.size ≤ g2
  G7 : w.heap.size ≤ g7
  N27 : g2 ≠ g7
section
variable {w W W' : World} {g2 g7 gp pc : Nat} {l : List S66} {a b c d e : Int}
theorem K.on (h : K w W g2 g7 gp pc l a b c d e) (hb : Below W.heap.size W W') : K w W' g2 g7 gp pc l a b c d e :=
  ⟨below_step h.below hb, blk_below h.h2 hb, blk_below h.h7 hb, Kd.R_below h.row hb, h.G2, h.G7, h.N27⟩
theorem K.drew (h : K w W g2 g7 gp pc l a b c d e) : K w W.drew g2 g7 gp pc l a b c d e := h.on (below_drew (Below.refl _ _))
theorem K.drewN (h : K w W g2 g7 gp pc l a b c d e) (n : Nat) : K w (W.drewN n) g2 g7 gp pc l a b c d e := h.on (pw_below_drewN (Below.refl _ _) n)
theorem K.set {a' b' c' d' e' : Int} (h : K w W g2 g7 gp pc l a b c d e) (j : Nat) (v : Value) (hv : (T5 a b c d e).setIfInBounds j v = T5 a' b' c' d' e') : K w (W.setCell ⟨g7, j, none⟩ v) g2 g7 gp pc l a' b' c' d' e' :=
  ⟨below_set h.below h.G7, blk_far h.h2 (p := ⟨g7, j, none⟩) h.N27 v, blk_put h.h7 j v hv, Kd.R_mono (Kd.R_far (p := ⟨g7, j, none⟩) (Kd.R_types h.row h.h7 (by decide)) (fun _ hk => hk.2) v) (fun _ _ => trivial), h.G2, h.G7, h.N27⟩
theorem K.part {p : S66} (h : K w W g2 g7 gp pc l a b c d e) (i : Nat) (hp : l[i]? = some p) :
    W.cell? ⟨gp, i * 6, none⟩ = some (.int .i64 p.f0) ∧ W.cell? ⟨gp, i * 6 + 1, none⟩ = some (.int .i64 p.f1) ∧ W.cell? ⟨gp, i * 6 + 2, none⟩ = some (.int .i64 p.f2) ∧ W.cell? ⟨gp, i * 6 + 3, none⟩ = some (.int .i64 p.f3) ∧ W.cell? ⟨gp, i * 6 + 4, none⟩ = some (.int .i64 p.f4) ∧ W.cell? ⟨gp, i * 6 + 5, none⟩ = some (.int .i64 p.f5) := by
  obtain ⟨hl, hp'⟩ := List.getElem?_eq_some_iff.1 hp
  obtain ⟨_, _, hc⟩ := Kd.R_reads' h.row
  obtain ⟨ad, e0, x0, x1, x2, x3, x4, x5⟩ := at_T66 hc (i : Int) (by omega) (by omega)
  cases e0
  have hr : rd_T66 l (i : Int) = p := by unfold rd_T66; simp [List.getD_eq_getElem?_getD, hp]
  rw [hr] at x0 x1 x2 x3 x4 x5
  simp only [Int.toNat_natCast, add_plain] at x0 x1 x2 x3 x4 x5
  exact ⟨x0, x1, x2, x3, x4, x5⟩
theorem K.inn (h : K w W g2 g7 gp pc l a b c d e) : Kd.C k66 W (some ⟨gp, 0, none⟩) l.length l ∧ l.length ≤ pc := ⟨(Kd.R_reads' h.row).2.2, (Kd.R_reads' h.row).2.1⟩
theorem K.ne (h : K w W g2 g7 gp pc l a b c d e) : g2 ≠ gp := by
  have hne : some g2 ≠ (Value.slice (some ⟨gp, 0, none⟩) l.length pc).ownBlock := Kd.R_ne h.row h.h2 (by decide)
  exact fun e => hne (by rw [e]; rfl)
theorem K.done {a' b' c' d' e' : Int} (h : K w W g2 g7 gp pc l a b c d e) :
    (((((W.setCell ⟨g2, 0, none⟩ (.int .u8 a')).setCell ⟨g2, 1, none⟩ (.int .i64 b')).setCell ⟨g2, 2, none⟩ (.int .i64 c')).setCell ⟨g2, 3, none⟩ (.int .u8 d')).setCell ⟨g2, 4, none⟩ (.int .i64 e')).heap[g2]? = some (.cells (T5 a' b' c' d' e') 23 (0, 0)) ∧
    Below w.heap.size w (((((W.setCell ⟨g2, 0, none⟩ (.int .u8 a')).setCell ⟨g2, 1, none⟩ (.int .i64 b')).setCell ⟨g2, 2, none⟩ (.int .i64 c')).setCell ⟨g2, 3, none⟩ (.int .u8 d')).setCell ⟨g2, 4, none⟩ (.int .i64 e')) :=
  ⟨blk_put (blk_put (blk_put (blk_put (blk_put h.h2 0 _ rfl) 1 _ rfl) 2 _ rfl) 3 _ rfl) 4 _ rfl, below_set (below_set (below_set (below_set (below_set h.below h.G2) h.G2) h.G2) h.G2) h.G2⟩
end
theorem cell_far {W : World} {g2 gp j k : Nat} {v x : Value} (hne : g2 ≠ gp) (hx : W.cell? ⟨gp, k, none⟩ = some x) : (W.setCell ⟨g2, j, none⟩ v).cell? ⟨gp, k, none⟩ = some x := by
  exact (World.cell?_setCell_far _ _ _ _ hne).trans hx
theorem partsAt {w : World} {base : Nat} {ok : Nat → Prop} {pv : Value} {ps : List S66} (h : Kd.R k66 66 w base ok pv ps) (hp : 0 < ps.length) : ∃ pa pc, pv = .slice (some pa) ps.length pc ∧ ps.length ≤ pc ∧ Kd.C k66 w (some pa) ps.length ps := by
  obtain ⟨A, c, rfl, hl, hc⟩ := Kd.R_reads h
  obtain ⟨ad, _, e, _⟩ := Kd.C_get hc ⟨0, 0, 0, 0, 0, 0⟩ 0 (by omega) (by omega)
  subst e
  exact ⟨ad, c, rfl, hl, hc⟩

set_option maxHeartbeats 8000000 in
set_option maxRecDepth 100000 in
theorem r_long (s : ByteArray) (hl : 1048576 < s.size) (w : World) :
    Calls Try.prog 17 #[.string s] w fun e w' => e = .returned (.tuple #[.agg (T5 0 0 0 0 0), .int .i64 0, .int .i64 3]) ∧ Below w.heap.size w w' := by
  have hu := Try.underlying23
  have hz := Try.underlying66
  have HB := Aside0.mk (Below.refl w.heap.size w)
  have b1 : decide ((1048576 : Int) < (s.size : Int)) = true := decide_eq_true (by omega)
  go_enter Try.func17, Try.ntmps17
  go_wp2_with (first | ((with_reducible refine gate_dst (N := 2) rfl ?_); refine box_event ?hg (N := 2) ?hd (cs := #[.int .u8 0, .int .i64 0, .int .i64 0, .int .u8 0, .int .i64 0]) (t := 23) ?hr ?_; (case hd => rfl); (case hg => rfl); (case hr => first | (go_simp; done) | (go_simp; rfl)); intro g2 hg2 wa hbox hb; have G2 := Aside0.mk (Nat.le_of_eq hg2.symm); have H2 := Aside0.mk hbox; replace HB := Aside0.mk (below_step HB.out hb); clear hb hbox hg2) | ((with_reducible refine gate_store (t := 23) (p := 2) (v := .tmp 16) rfl ?_); obtain ⟨r0, r1, r2, r3, r4, _⟩ := froz H2.out; obtain ⟨s0, s1, s2, s3, s4⟩ := t5_cells H2.out; refine store_event (w1 := ?wwwz) ?hgwz rfl rfl ?hrwz ?_; (case hgwz => rfl); (case hrwz => go_simp; rfl); intro wz hw; clear r0 r1 r2 r3 r4 s0 s1 s2 s3 s4; (try clear tc0 tc1 tc2 tc3 tc4); have hD : wz.heap[g2]? = some (.cells (T5 0 0 0 0 0) 23 (0, 0)) := (by rw [hw]; exact blk_put (blk_put (blk_put (blk_put (blk_put H2.out 0 _ rfl) 1 _ rfl) 2 _ rfl) 3 _ rfl) 4 _ rfl); have hE : Below w.heap.size w wz := (by rw [hw]; exact below_set (below_set (below_set (below_set (below_set HB.out G2.out) G2.out) G2.out) G2.out) G2.out); have FD := Aside0.mk hD; have FE := Aside0.mk hE; clear hD hE hw))
  refine bodyPost_ret (results_ctt rfl _ _ g2 23 (T5 0 0 0 0 0) (0, 0) _ rfl FD.out Try.underlying23 rfl (by kernel_rfl)) rfl ?_
  exact ⟨rfl, FE.out⟩
set_option maxHeartbeats 8000000 in
set_option maxRecDepth 100000 in
theorem r_form (s : ByteArray) (hs : s.size ≤ 1048576) (kf : Nat) (kd fa fe : Int) (l : List S66) (hf : vivariumref04_form.f kf s = some (kd, l, fa, fe)) (he : fe ≠ 0) (w : World) :
    Calls Try.prog 17 #[.string s] w fun e w' => e = .returned (.tuple #[.agg (T5 0 0 0 0 0), .int .i64 fa, .int .i64 fe]) ∧ Below w.heap.size w w' := by
  have hu := Try.underlying23
  have hz := Try.underlying66
  have HB := Aside0.mk (Below.refl w.heap.size w)
  have b1 : decide ((1048576 : Int) < (s.size : Int)) = false := decide_eq_false (by omega)
  have HF := Aside0.mk hf
  have b2 : (fe != 0) = true := by simpa using he
  clear hf he
  go_enter Try.func17, Try.ntmps17
  go_wp2_with (first | ((with_reducible refine gate_dst (N := 2) rfl ?_); refine box_event ?hg (N := 2) ?hd (cs := #[.int .u8 0, .int .i64 0, .int .i64 0, .int .u8 0, .int .i64 0]) (t := 23) ?hr ?_; (case hd => rfl); (case hg => rfl); (case hr => first | (go_simp; done) | (go_simp; rfl)); intro g2 hg2 wa hbox hb; have G2 := Aside0.mk (Nat.le_of_eq hg2.symm); have H2 := Aside0.mk hbox; replace HB := Aside0.mk (below_step HB.out hb); clear hb hbox hg2) | (go_at_call 30; (with_reducible refine (vivariumref04_form.calls kf s kd l fa fe _ HF.out).mono ?_); rintro en_ wb ⟨pv, rfl, hr_, hb⟩; have hr2_ := Kd.R_lower hr_ HB.out.size; replace H2 := Aside0.mk (blk_below H2.out hb); replace HB := Aside0.mk (below_step HB.out hb); have HR := Aside0.mk hr2_; clear hb hr_ hr2_) | ((with_reducible refine gate_store (t := 23) (p := 2) (v := .tmp 26) rfl ?_); obtain ⟨r0, r1, r2, r3, r4, _⟩ := froz H2.out; obtain ⟨s0, s1, s2, s3, s4⟩ := t5_cells H2.out; refine store_event (w1 := ?wwwz) ?hgwz rfl rfl ?hrwz ?_; (case hgwz => rfl); (case hrwz => go_simp; rfl); intro wz hw; clear r0 r1 r2 r3 r4 s0 s1 s2 s3 s4; (try clear tc0 tc1 tc2 tc3 tc4); have hD : wz.heap[g2]? = some (.cells (T5 0 0 0 0 0) 23 (0, 0)) := (by rw [hw]; exact blk_put (blk_put (blk_put (blk_put (blk_put H2.out 0 _ rfl) 1 _ rfl) 2 _ rfl) 3 _ rfl) 4 _ rfl); have hE : Below w.heap.size w wz := (by rw [hw]; exact below_set (below_set (below_set (below_set (below_set HB.out G2.out) G2.out) G2.out) G2.out) G2.out); have FD := Aside0.mk hD; have FE := Aside0.mk hE; clear hD hE hw))
  refine bodyPost_ret (results_ctt rfl _ _ g2 23 (T5 0 0 0 0 0) (0, 0) _ rfl FD.out Try.underlying23 rfl (by kernel_rfl)) rfl ?_
  exact ⟨rfl, FE.out⟩
set_option maxHeartbeats 8000000 in
set_option maxRecDepth 100000 in
theorem r_none (s : ByteArray) (hs : s.size ≤ 1048576) (kf : Nat) (kd fa : Int) (hf : vivariumref04_form.f kf s = some (kd, [], fa, 0)) (w : World) :
    Calls Try.prog 17 #[.string s] w fun e w' => e = .returned (.tuple #[.agg (T5 kd 0 0 0 0), .int .i64 0, .int .i64 0]) ∧ Below w.heap.size w w' := by
  have hu := Try.underlying23
  have hz := Try.underlying66
  have HB := Aside0.mk (Below.refl w.heap.size w)
  have b1 : decide ((1048576 : Int) < (s.size : Int)) = false := decide_eq_false (by omega)
  have HF := Aside0.mk hf
  clear hf
  go_enter Try.func17, Try.ntmps17
  go_wp2_with (first | ((with_reducible refine gate_dst (N := 2) rfl ?_); refine box_event ?hg (N := 2) ?hd (cs := #[.int .u8 0, .int .i64 0, .int .i64 0, .int .u8 0, .int .i64 0]) (t := 23) ?hr ?_; (case hd => rfl); (case hg => rfl); (case hr => first | (go_simp; done) | (go_simp; rfl)); intro g2 hg2 wa hbox hb; have G2 := Aside0.mk (Nat.le_of_eq hg2.symm); have H2 := Aside0.mk hbox; replace HB := Aside0.mk (below_step HB.out hb); clear hb hbox hg2) | (go_at_call 30; (with_reducible refine (vivariumref04_form.calls kf s kd [] fa 0 _ HF.out).mono ?_); rintro en_ wb ⟨pv, rfl, hr_, hb⟩; have hr2_ := Kd.R_lower hr_ HB.out.size; replace H2 := Aside0.mk (blk_below H2.out hb); replace HB := Aside0.mk (below_step HB.out hb); have HR := Aside0.mk hr2_; clear hb hr_ hr2_; obtain ⟨A_, pc, rfl⟩ := Kd.R_slice HR.out) | ((with_reducible refine gate_dst (N := 9) rfl ?_); refine box_event ?hg (N := 9) ?hd (cs := #[.int .u8 0, .int .i64 0, .int .i64 0, .int .u8 0, .int .i64 0]) (t := 23) ?hr ?_; (case hd => rfl); (case hg => rfl); (case hr => first | (go_simp; done) | (go_simp; rfl)); intro g7 hg7 wc hbox hb; have G7 := Aside0.mk (show w.heap.size ≤ g7 by rw [hg7]; exact HB.out.size); have N27 := Aside0.mk (show g2 ≠ g7 by rw [hg7]; exact Nat.ne_of_lt (blk_lt H2.out)); replace H2 := Aside0.mk (blk_below H2.out hb); replace HR := Aside0.mk (Kd.R_below HR.out hb); replace HB := Aside0.mk (below_step HB.out hb); have H7 := Aside0.mk hbox; clear hb hbox hg7; obtain ⟨tc0, tc1, tc2, tc3, tc4⟩ := t5_cells H7.out) | ((with_reducible refine gate_store (t := 23) (p := 9) (v := .tmp 30) rfl ?_); obtain ⟨r0, r1, r2, r3, r4, _⟩ := froz H7.out; have HR7 := Aside0.mk (Kd.R_types HR.out H7.out (by decide)); refine store_event (w1 := ?wwwd) ?hgwd rfl rfl ?hrwd ?_; (case hgwd => rfl); (case hrwd => go_simp; rfl); intro wd hw; clear r0 r1 r2 r3 r4 tc0 tc1 tc2 tc3 tc4; have h7' : wd.heap[g7]? = some (.cells (T5 kd 0 0 0 0) 23 (0, 0)) := (by rw [hw]; exact blk_put (blk_put (blk_put (blk_put (blk_put H7.out 0 _ rfl) 1 _ rfl) 2 _ rfl) 3 _ rfl) 4 _ rfl); have h2' : wd.heap[g2]? = some (.cells (T5 0 0 0 0 0) 23 (0, 0)) := (by rw [hw]; exact (blk_far (blk_far (blk_far (blk_far (blk_far H2.out (p := ⟨g7, 0, none⟩) N27.out _) (p := ⟨g7, 1, none⟩) N27.out _) (p := ⟨g7, 2, none⟩) N27.out _) (p := ⟨g7, 3, none⟩) N27.out _) (p := ⟨g7, 4, none⟩) N27.out _)); have hB' : Below w.heap.size w wd := (by rw [hw]; exact below_set (below_set (below_set (below_set (below_set HB.out G7.out) G7.out) G7.out) G7.out) G7.out); have hR' : Kd.R k66 66 wd w.heap.size (fun _ => True) (.slice A_ ([] : List S66).length pc) [] := (by rw [hw]; exact Kd.R_mono (Kd.R_far (p := ⟨g7, 4, none⟩) (Kd.R_far (p := ⟨g7, 3, none⟩) (Kd.R_far (p := ⟨g7, 2, none⟩) (Kd.R_far (p := ⟨g7, 1, none⟩) (Kd.R_far (p := ⟨g7, 0, none⟩) HR7.out (fun _ hk => hk.2) _) (fun _ hk => hk.2) _) (fun _ hk => hk.2) _) (fun _ hk => hk.2) _) (fun _ hk => hk.2) _) (fun _ _ => trivial)); clear H7 H2 HB HR HR7 hw; have H2 := Aside0.mk h2'; have H7 := Aside0.mk h7'; have HB := Aside0.mk hB'; clear h7' h2' hB' hR'; obtain ⟨tc0, tc1, tc2, tc3, tc4⟩ := t5_cells H7.out) | ((with_reducible refine gate_store (t := 23) (p := 2) (v := .tmp 34) rfl ?_); obtain ⟨r0, r1, r2, r3, r4, _⟩ := froz H2.out; obtain ⟨s0, s1, s2, s3, s4⟩ := t5_cells H2.out; refine store_event (w1 := ?wwwz) ?hgwz rfl rfl ?hrwz ?_; (case hgwz => rfl); (case hrwz => go_simp; rfl); intro wz hw; clear r0 r1 r2 r3 r4 s0 s1 s2 s3 s4; (try clear tc0 tc1 tc2 tc3 tc4); have hD : wz.heap[g2]? = some (.cells (T5 kd 0 0 0 0) 23 (0, 0)) := (by rw [hw]; exact blk_put (blk_put (blk_put (blk_put (blk_put H2.out 0 _ rfl) 1 _ rfl) 2 _ rfl) 3 _ rfl) 4 _ rfl); have hE : Below w.heap.size w wz := (by rw [hw]; exact below_set (below_set (below_set (below_set (below_set HB.out G2.out) G2.out) G2.out) G2.out) G2.out); have FD := Aside0.mk hD; have FE := Aside0.mk hE; clear hD hE hw))
  refine bodyPost_ret (results_ctt rfl _ _ g2 23 (T5 kd 0 0 0 0) (0, 0) _ rfl FD.out Try.underlying23 rfl (by kernel_rfl)) rfl ?_
  exact ⟨rfl, FE.out⟩
set_option maxHeartbeats 16000000 in
set_option maxRecDepth 100000 in
theorem r_1 (s : ByteArray) (hs : s.size ≤ 1048576) (kf : Nat) (kd fa : Int) (p : Pt) (hp : Good s p) (hf : vivariumref04_form.f kf s = some (kd, [toR p], fa, 0)) (kw : Nat) (V : Nat → Nat → Int) (hV : ∀ a b, a ≤ b → b ≤ s.size → vivariumref04_worth.f kw (s.extract a b) = some (V a b)) (kt ks : Nat) (ta sa : Int) (tb sb : Bool) (ht : ¬ (V p.at_ p.en) > 65536 → ¬ (3 ≤ kd ∧ (V p.at_ p.en) = 0) → vivariumref04_twist.f kt s kd [toR p] = some (ta, tb)) (hsf : ¬ (V p.at_ p.en) > 65536 → ¬ (3 ≤ kd ∧ (V p.at_ p.en) = 0) → tb = false → vivariumref04_shift.f ks s kd [toR p] (V p.at_ p.en) (V p.at_ p.en) = some (sa, sb)) (hVr : ¬ (V p.at_ p.en) > 65536 → ¬ (3 ≤ kd ∧ (V p.at_ p.en) = 0) → tb = false → sb = false → ∀ a b, 0 ≤ V a b ∧ V a b ≤ 1048577) (R : Value) (hR : R = if (V p.at_ p.en) > 65536 then .tuple #[.agg (T5 0 0 0 0 0), .int .i64 p.at_, .int .i64 41] else if (3 ≤ kd ∧ (V p.at_ p.en) = 0) then .tuple #[.agg (T5 0 0 0 0 0), .int .i64 p.at_, .int .i64 42] else if tb = true then .tuple #[.agg (T5 0 0 0 0 0), .int .i64 ta, .int .i64 44] else if sb = true then .tuple #[.agg (T5 0 0 0 0 0), .int .i64 sa, .int .i64 43] else .tuple #[.agg (T5 kd (V p.at_ p.en) (V p.at_ p.en) (turnsV V s [p] 0 (0, 0)).1 (turnsV V s [p] 0 (0, 0)).2), .int .i64 0, .int .i64 0]) (w : World) :
    Calls Try.prog 17 #[.string s] w fun e w' => e = .returned R ∧ Below w.heap.size w w' := by
  have hu := Try.underlying23
  have hz := Try.underlying66
  have HB := Aside0.mk (Below.refl w.heap.size w)
  have b1 : decide ((1048576 : Int) < (s.size : Int)) = false := decide_eq_false (by omega)
  have HF := Aside0.mk hf
  have GP := Aside0.mk hp
  have HV := Aside0.mk hV
  replace ht := Aside0.mk ht
  replace hsf := Aside0.mk hsf
  replace hVr := Aside0.mk hVr
  replace hR := Aside0.mk hR
  clear hf hp hV
  go_enter Try.func17, Try.ntmps17
  go_upto_region 9 with (first | ((with_reducible refine gate_dst (N := 2) rfl ?_); refine box_event ?hg (N := 2) ?hd (cs := #[.int .u8 0, .int .i64 0, .int .i64 0, .int .u8 0, .int .i64 0]) (t := 23) ?hr ?_; (case hd => rfl); (case hg => rfl); (case hr => first | (go_simp; done) | (go_simp; rfl)); intro g2 hg2 wa hbox hb; have G2 := Aside0.mk (Nat.le_of_eq hg2.symm); have H2 := Aside0.mk hbox; replace HB := Aside0.mk (below_step HB.out hb); clear hb hbox hg2) | (go_at_call 30; (with_reducible refine (vivariumref04_form.calls kf s kd [toR p] fa 0 _ HF.out).mono ?_); rintro en_ wb ⟨pv, rfl, hr_, hb⟩; have hr2_ := Kd.R_lower hr_ HB.out.size; replace H2 := Aside0.mk (blk_below H2.out hb); replace HB := Aside0.mk (below_step HB.out hb); have HR := Aside0.mk hr2_; clear hb hr_ hr2_; obtain ⟨pa, pc, rfl, _, _⟩ := partsAt HR.out (by simp); obtain ⟨gp, rfl⟩ := Kd.R_head HR.out) | ((with_reducible refine gate_dst (N := 9) rfl ?_); refine box_event ?hg (N := 9) ?hd (cs := #[.int .u8 0, .int .i64 0, .int .i64 0, .int .u8 0, .int .i64 0]) (t := 23) ?hr ?_; (case hd => rfl); (case hg => rfl); (case hr => first | (go_simp; done) | (go_simp; rfl)); intro g7 hg7 wc hbox hb; have G7 := Aside0.mk (show w.heap.size ≤ g7 by rw [hg7]; exact HB.out.size); have N27 := Aside0.mk (show g2 ≠ g7 by rw [hg7]; exact Nat.ne_of_lt (blk_lt H2.out)); replace H2 := Aside0.mk (blk_below H2.out hb); replace HR := Aside0.mk (Kd.R_below HR.out hb); replace HB := Aside0.mk (below_step HB.out hb); have H7 := Aside0.mk hbox; clear hb hbox hg7; obtain ⟨tc0, tc1, tc2, tc3, tc4⟩ := t5_cells H7.out) | ((with_reducible refine gate_store (t := 23) (p := 9) (v := .tmp 30) rfl ?_); obtain ⟨r0, r1, r2, r3, r4, _⟩ := froz H7.out; have HR7 := Aside0.mk (Kd.R_types HR.out H7.out (by decide)); refine store_event (w1 := ?wwwd) ?hgwd rfl rfl ?hrwd ?_; (case hgwd => rfl); (case hrwd => go_simp; rfl); intro wd hw; clear r0 r1 r2 r3 r4 tc0 tc1 tc2 tc3 tc4; have h7' : wd.heap[g7]? = some (.cells (T5 kd 0 0 0 0) 23 (0, 0)) := (by rw [hw]; exact blk_put (blk_put (blk_put (blk_put (blk_put H7.out 0 _ rfl) 1 _ rfl) 2 _ rfl) 3 _ rfl) 4 _ rfl); have h2' : wd.heap[g2]? = some (.cells (T5 0 0 0 0 0) 23 (0, 0)) := (by rw [hw]; exact (blk_far (blk_far (blk_far (blk_far (blk_far H2.out (p := ⟨g7, 0, none⟩) N27.out _) (p := ⟨g7, 1, none⟩) N27.out _) (p := ⟨g7, 2, none⟩) N27.out _) (p := ⟨g7, 3, none⟩) N27.out _) (p := ⟨g7, 4, none⟩) N27.out _)); have hB' : Below w.heap.size w wd := (by rw [hw]; exact below_set (below_set (below_set (below_set (below_set HB.out G7.out) G7.out) G7.out) G7.out) G7.out); have hR' : Kd.R k66 66 wd w.heap.size (fun _ => True) (.slice (some ⟨gp, 0, none⟩) 1 pc) [toR p] := (by rw [hw]; exact Kd.R_mono (Kd.R_far (p := ⟨g7, 4, none⟩) (Kd.R_far (p := ⟨g7, 3, none⟩) (Kd.R_far (p := ⟨g7, 2, none⟩) (Kd.R_far (p := ⟨g7, 1, none⟩) (Kd.R_far (p := ⟨g7, 0, none⟩) HR7.out (fun _ hk => hk.2) _) (fun _ hk => hk.2) _) (fun _ hk => hk.2) _) (fun _ hk => hk.2) _) (fun _ hk => hk.2) _) (fun _ _ => trivial)); clear H7 H2 HB HR HR7 hw; have F : Aside0 (K w wd g2 g7 gp pc [toR p] kd 0 0 0 0) := ⟨⟨hB', h2', h7', hR', G2.out, G7.out, N27.out⟩⟩; clear h7' h2' hB' hR'; obtain ⟨tc0, tc1, tc2, tc3, tc4⟩ := t5_cells F.out.h7; obtain ⟨x0, x1, x2, x3, x4, x5⟩ := F.out.part 0 rfl; simp only [toR, Nat.zero_mul, Nat.zero_add, Nat.one_mul, Nat.reduceAdd] at x0 x1 x2 x3 x4 x5))
  have e1 : (0 : Int) ≤ (p.at_ : Int) := by omega
  have e2 : (p.at_ : Int) ≤ (p.en : Int) := by have := GP.out.o1; omega
  have e3 : (0 : Int) ≤ (p.en : Int) := by omega
  have e4 : (p.en : Int) ≤ (s.size : Int) := by have := GP.out.o2; omega
  refine start_ (n := 13) (S := fun w' => w'.cell? ⟨gp, 0, none⟩ = some (.int .i64 p.at_) ∧ w'.cell? ⟨gp, 1, none⟩ = some (.int .i64 p.en)) (ds := [12]) #[false, false, false, false, false, false, false, false, false, false, false, false, false] (by kernel_rfl) rfl rfl ⟨x0, x1⟩ (fun hHeld => ?_)
  (try clear tc0 tc1 tc2 tc3 tc4); (try clear x0 x1 x2 x3 x4 x5); (try clear y0 y1 y2 y3 y4 y5)
  replace F := Aside0.mk F.out.drew
  generalize wd.drew = wx9 at F hHeld ⊢
  refine pure_ (i := 0) (N := (some 35)) (v := ?_) (a' := ?_) #[true, false, false, false, false, false, false, false, false, false, false, false, false] rfl rfl (by kernel_rfl) (fun _ _ _ h => h) (Or.inl ⟨by rfl, ?_⟩) ?_ ?_
  rotate_left
  · intro w'
    go_simp
    with_reducible rfl
  rotate_left
  · simp only [Act.put, List.setIfInBounds_toArray, List.set_cons_zero, List.set_cons_succ, i64_w, i32_w]
    rfl
  refine pure_ (i := 1) (N := (some 36)) (v := ?_) (a' := ?_) #[true, true, false, false, false, false, false, false, false, false, false, false, false] rfl rfl (by kernel_rfl) (fun _ _ _ h => h) (Or.inl ⟨by rfl, ?_⟩) ?_ ?_
  rotate_left
  · intro w'
    go_simp
    with_reducible rfl
  rotate_left
  · simp only [Act.put, List.setIfInBounds_toArray, List.set_cons_zero, List.set_cons_succ, i64_w, i32_w]
    rfl
  refine pure_ (i := 2) (N := (some 37)) (v := ?_) (a' := ?_) #[true, true, true, false, false, false, false, false, false, false, false, false, false] rfl rfl (by kernel_rfl) (fun _ _ _ h => h) (Or.inl ⟨by rfl, ?_⟩) ?_ ?_
  rotate_left
  · intro w'
    go_simp
    with_reducible rfl
  rotate_left
  · simp only [Act.put, List.setIfInBounds_toArray, List.set_cons_zero, List.set_cons_succ, i64_w, i32_w]
    rfl
  refine pure_ (i := 3) (N := (some 38)) (v := ?_) (a' := ?_) #[true, true, true, true, false, false, false, false, false, false, false, false, false] rfl rfl (by kernel_rfl) (fun _ _ _ h => h) (Or.inl ⟨by rfl, ?_⟩) ?_ ?_
  rotate_left
  · intro w'
    go_simp
    with_reducible rfl
  rotate_left
  · simp only [Act.put, List.setIfInBounds_toArray, List.set_cons_zero, List.set_cons_succ, i64_w, i32_w]
    rfl
  refine take_ (i := 4) (N := (some 39)) (v := ?_) (a' := ?_) #[true, true, true, true, true, false, false, false, false, false, false, false, false] rfl rfl (by kernel_rfl) (fun _ _ _ h => h) (Or.inl ⟨by rfl, ?_⟩) hHeld ?_ ?_
  rotate_left
  · rintro w' ⟨s0, s1⟩
    go_simp
    with_reducible rfl
  rotate_left
  · simp only [Act.put, List.setIfInBounds_toArray, List.set_cons_zero, List.set_cons_succ, i64_w, i32_w]
    rfl
  refine pure_ (i := 5) (N := (some 40)) (v := ?_) (a' := ?_) #[true, true, true, true, true, true, false, false, false, false, false, false, false] rfl rfl (by kernel_rfl) (fun _ _ _ h => h) (Or.inl ⟨by rfl, ?_⟩) ?_ ?_
  rotate_left
  · intro w'
    go_simp
    with_reducible rfl
  rotate_left
  · simp only [Act.put, List.setIfInBounds_toArray, List.set_cons_zero, List.set_cons_succ, i64_w, i32_w]
    rfl
  refine pure_ (i := 6) (N := (some 41)) (v := ?_) (a' := ?_) #[true, true, true, true, true, true, true, false, false, false, false, false, false] rfl rfl (by kernel_rfl) (fun _ _ _ h => h) (Or.inl ⟨by rfl, ?_⟩) ?_ ?_
  rotate_left
  · intro w'
    go_simp
    with_reducible rfl
  rotate_left
  · simp only [Act.put, List.setIfInBounds_toArray, List.set_cons_zero, List.set_cons_succ, i64_w, i32_w]
    rfl
  refine pure_ (i := 7) (N := (some 42)) (v := ?_) (a' := ?_) #[true, true, true, true, true, true, true, true, false, false, false, false, false] rfl rfl (by kernel_rfl) (fun _ _ _ h => h) (Or.inl ⟨by rfl, ?_⟩) ?_ ?_
  rotate_left
  · intro w'
    go_simp
    with_reducible rfl
  rotate_left
  · simp only [Act.put, List.setIfInBounds_toArray, List.set_cons_zero, List.set_cons_succ, i64_w, i32_w]
    rfl
  refine take_ (i := 8) (N := (some 43)) (v := ?_) (a' := ?_) #[true, true, true, true, true, true, true, true, true, false, false, false, false] rfl rfl (by kernel_rfl) (fun _ _ _ h => h) (Or.inl ⟨by rfl, ?_⟩) hHeld ?_ ?_
  rotate_left
  · rintro w' ⟨s0, s1⟩
    go_simp
    with_reducible rfl
  rotate_left
  · simp only [Act.put, List.setIfInBounds_toArray, List.set_cons_zero, List.set_cons_succ, i64_w, i32_w]
    rfl
  refine pure_ (i := 9) (N := (some 44)) (v := ?_) (a' := ?_) #[true, true, true, true, true, true, true, true, true, true, false, false, false] rfl rfl (by kernel_rfl) (fun _ _ _ h => h) (Or.inl ⟨by rfl, ?_⟩) ?_ ?_
  rotate_left
  · intro w'
    go_simp
    with_reducible rfl
  rotate_left
  · simp only [Act.put, List.setIfInBounds_toArray, List.set_cons_zero, List.set_cons_succ, i64_w, i32_w]
    rfl
  refine one_ (i := 10) (N := (some 45)) #[true, true, true, true, true, true, true, true, true, true, true, false, false] rfl rfl (by kernel_rfl) (by decide) (fun K hK => ?_)
  refine goes_ Try.func31 (by kernel_rfl) rfl #[.string (s.extract p.at_ p.en)] (by rfl) rfl rfl (by (try simp only [List.map_toArray, List.map_cons, List.map_nil]); first | done | rfl) ?_
  with_reducible refine (vivariumref04_worth.calls kw (s.extract p.at_ p.en) (V p.at_ p.en) _ (HV.out _ _ GP.out.o1 GP.out.o2)).mono ?_
  rintro en_ w' ⟨rfl, nd, rfl⟩
  refine ⟨_, rfl, ?_⟩
  refine hK.out _ _ hHeld (fun hHeld => ?_)
  clear hK K
  replace F := Aside0.mk (F.out.drewN nd)
  generalize wx9.drewN nd = wy9 at F hHeld ⊢
  refine pure_ (i := 11) (N := (some 46)) (v := ?_) (a' := ?_) #[true, true, true, true, true, true, true, true, true, true, true, true, false] rfl rfl (by kernel_rfl) (fun _ _ _ h => h) (Or.inl ⟨by rfl, ?_⟩) ?_ ?_
  rotate_left
  · intro w'
    go_simp
    with_reducible rfl
  rotate_left
  · simp only [Act.put, List.setIfInBounds_toArray, List.set_cons_zero, List.set_cons_succ, i64_w, i32_w]
    rfl
  refine last_ (i := 12) (N := none) #[true, true, true, true, true, true, true, true, true, true, true, true, true] rfl rfl (by kernel_rfl) (by decide) (fun K hK => ?_)
  obtain ⟨r0, r1, r2, r3, r4, _⟩ := froz F.out.h7
  obtain ⟨tc0, tc1, tc2, tc3, tc4⟩ := t5_cells F.out.h7
  refine skip_ (w1 := wy9.setCell ⟨g7, 1, none⟩ (.int .i64 (V p.at_ p.en))) (by rfl) rfl ?_ ?_
  · first | (go_simp; done) | (go_simp; rfl)
  refine hK.out _ _ ?_
  have hF_ := F.out.set 1 (.int .i64 (V p.at_ p.en)) (a' := kd) (b' := (V p.at_ p.en)) (c' := 0) (d' := 0) (e' := 0) rfl
  replace F := Aside0.mk hF_
  generalize wy9.setCell ⟨g7, 1, none⟩ (.int .i64 (V p.at_ p.en)) = wf at F ⊢
  clear hK K hF_ r0 r1 r2 r3 r4 tc0 tc1 tc2 tc3 tc4 hHeld
  refine done_ (by kernel_rfl) ?_
  clear e1 e2 e3 e4
  obtain ⟨tc0, tc1, tc2, tc3, tc4⟩ := t5_cells F.out.h7
  obtain ⟨x0, x1, x2, x3, x4, x5⟩ := F.out.part 0 rfl
  simp only [toR, Nat.zero_mul, Nat.zero_add, Nat.one_mul, Nat.reduceAdd] at x0 x1 x2 x3 x4 x5
  go_upto_region 13 with (first | ((with_reducible refine gate_store (t := 3) (p := 49) (v := .tmp 48) rfl ?_); obtain ⟨r0, r1, r2, r3, r4, _⟩ := froz F.out.h7; refine store_event (w1 := ?wwwg) ?hgwg rfl rfl ?hrwg ?_; (case hgwg => rfl); (case hrwg => go_simp; rfl); intro wg hw; clear r0 r1 r2 r3 r4; (try clear tc0 tc1 tc2 tc3 tc4); (try clear x0 x1 x2 x3 x4 x5); (try clear y0 y1 y2 y3 y4 y5); have hF_ : K w wg g2 g7 gp pc [toR p] kd (V p.at_ p.en) (V p.at_ p.en) 0 0 := (by rw [hw]; exact F.out.set 2 (.int .i64 (V p.at_ p.en)) rfl); replace F := Aside0.mk hF_; clear hF_ hw; obtain ⟨tc0, tc1, tc2, tc3, tc4⟩ := t5_cells F.out.h7; obtain ⟨x0, x1, x2, x3, x4, x5⟩ := F.out.part 0 rfl; simp only [toR, Nat.zero_mul, Nat.zero_add, Nat.one_mul, Nat.reduceAdd] at x0 x1 x2 x3 x4 x5))
  by_cases c1 : (V p.at_ p.en) > 65536
  · have d1 : decide (65536 < (V p.at_ p.en)) = true := decide_eq_true c1
    go_upto_region 14 with fail
    refine start_ (n := 8) (S := fun w' => w'.cell? ⟨gp, 0, none⟩ = some (.int .i64 p.at_)) (ds := []) #[false, false, false, false, false, false, false, false] (by kernel_rfl) rfl rfl x0 (fun hHeld => ?_)
    (try clear tc0 tc1 tc2 tc3 tc4); (try clear x0 x1 x2 x3 x4 x5); (try clear y0 y1 y2 y3 y4 y5)
    replace F := Aside0.mk F.out.drew
    generalize wg.drew = wx14 at F hHeld ⊢
    refine pure_ (i := 0) (N := (some 68)) (v := ?_) (a' := ?_) #[true, false, false, false, false, false, false, false] rfl rfl (by kernel_rfl) (fun _ _ _ h => h) (Or.inl ⟨by rfl, ?_⟩) ?_ ?_
    rotate_left
    · intro w'
      go_simp
      with_reducible rfl
    rotate_left
    · simp only [Act.put, List.setIfInBounds_toArray, List.set_cons_zero, List.set_cons_succ, i64_w, i32_w]
      rfl
    refine pure_ (i := 1) (N := (some 69)) (v := ?_) (a' := ?_) #[true, true, false, false, false, false, false, false] rfl rfl (by kernel_rfl) (fun _ _ _ h => h) (Or.inl ⟨by rfl, ?_⟩) ?_ ?_
    rotate_left
    · intro w'
      go_simp
      with_reducible rfl
    rotate_left
    · simp only [Act.put, List.setIfInBounds_toArray, List.set_cons_zero, List.set_cons_succ, i64_w, i32_w]
      rfl
    refine pure_ (i := 2) (N := (some 70)) (v := ?_) (a' := ?_) #[true, true, true, false, false, false, false, false] rfl rfl (by kernel_rfl) (fun _ _ _ h => h) (Or.inl ⟨by rfl, ?_⟩) ?_ ?_
    rotate_left
    · intro w'
      go_simp
      with_reducible rfl
    rotate_left
    · simp only [Act.put, List.setIfInBounds_toArray, List.set_cons_zero, List.set_cons_succ, i64_w, i32_w]
      rfl
    refine pure_ (i := 3) (N := (some 71)) (v := ?_) (a' := ?_) #[true, true, true, true, false, false, false, false] rfl rfl (by kernel_rfl) (fun _ _ _ h => h) (Or.inl ⟨by rfl, ?_⟩) ?_ ?_
    rotate_left
    · intro w'
      go_simp
      with_reducible rfl
    rotate_left
    · simp only [Act.put, List.setIfInBounds_toArray, List.set_cons_zero, List.set_cons_succ, i64_w, i32_w]
      rfl
    refine take_ (i := 4) (N := (some 72)) (v := ?_) (a' := ?_) #[true, true, true, true, true, false, false, false] rfl rfl (by kernel_rfl) (fun _ _ _ h => h) (Or.inl ⟨by rfl, ?_⟩) hHeld ?_ ?_
    rotate_left
    · rintro w' s0
      go_simp
      with_reducible rfl
    rotate_left
    · simp only [Act.put, List.setIfInBounds_toArray, List.set_cons_zero, List.set_cons_succ, i64_w, i32_w]
      rfl
    refine one_ (i := 5) (N := none) #[true, true, true, true, true, true, false, false] rfl rfl (by kernel_rfl) (by decide) (fun K hK => ?_)
    obtain ⟨r0, r1, r2, r3, r4, _⟩ := froz F.out.h2
    obtain ⟨s0, s1, s2, s3, s4⟩ := t5_cells F.out.h2
    have hD := F.out.done (a' := 0) (b' := 0) (c' := 0) (d' := 0) (e' := 0)
    have FD := Aside0.mk hD
    clear hD
    refine skip_ (w1 := ?_) (by rfl) rfl ?_ ?_
    rotate_left
    · go_simp
      rfl
    have hne_ := F.out.ne
    refine hK.out _ _ (cell_far hne_ (cell_far hne_ (cell_far hne_ (cell_far hne_ (cell_far hne_ hHeld))))) (fun hHeld => ?_)
    clear hK K r0 r1 r2 r3 r4 s0 s1 s2 s3 s4 hne_
    refine pure_ (i := 6) (N := (some 3)) (v := ?_) (a' := ?_) #[true, true, true, true, true, true, true, false] rfl rfl (by kernel_rfl) (fun _ _ _ h => h) (Or.inl ⟨by rfl, ?_⟩) ?_ ?_
    rotate_left
    · intro w'
      go_simp
      with_reducible rfl
    rotate_left
    · simp only [Act.put, List.setIfInBounds_toArray, List.set_cons_zero, List.set_cons_succ, i64_w, i32_w]
      rfl
    refine pure_ (i := 7) (N := (some 4)) (v := ?_) (a' := ?_) #[true, true, true, true, true, true, true, true] rfl rfl (by kernel_rfl) (fun _ _ _ h => h) (Or.inl ⟨by rfl, ?_⟩) ?_ ?_
    rotate_left
    · intro w'
      go_simp
      with_reducible rfl
    rotate_left
    · simp only [Act.put, List.setIfInBounds_toArray, List.set_cons_zero, List.set_cons_succ, i64_w, i32_w]
      rfl
    refine done_ (by kernel_rfl) ?_
    try go_wp2
    refine bodyPost_ret (results_ctt rfl _ _ g2 23 (T5 0 0 0 0 0) (0, 0) _ rfl FD.out.1 Try.underlying23 rfl (by kernel_rfl)) rfl ?_
    exact ⟨by rw [hR.out, if_pos c1]; rfl, FD.out.2⟩
  · have d1 : decide (65536 < (V p.at_ p.en)) = false := decide_eq_false c1
    have C1 := Aside0.mk c1
    clear c1
    go_upto_region 15 with fail
    go_upto_region 17 with fail
    go_cut [87] (fun vs wc => vs = .bool (decide (3 ≤ kd ∧ (V p.at_ p.en) = 0)) ∧ wg = wc)
    case first =>
      by_cases k_ : (3 : Int) ≤ kd
      · have k1 : decide ((3 : Int) ≤ kd) = true := decide_eq_true k_
        by_cases z_ : (V p.at_ p.en) = 0
        · have k2 : ((V p.at_ p.en) == 0) = true := by rw [z_]; rfl
          clear z_
          go_wp2
          go_meet
          exact ⟨congrArg Value.bool (decide_eq_true ⟨k_, by simpa using k2⟩).symm, rfl⟩
        · have k2 : ((V p.at_ p.en) == 0) = false := by simpa using z_
          go_wp2
          go_meet
          exact ⟨congrArg Value.bool (decide_eq_false (fun h => z_ h.2)).symm, rfl⟩
      · have k1 : decide ((3 : Int) ≤ kd) = false := decide_eq_false k_
        go_wp2
        go_meet
        exact ⟨congrArg Value.bool (decide_eq_false (fun h => absurd h.1 (by omega))).symm, rfl⟩
    case rest =>
      obtain ⟨hv_, rfl⟩ := hcut
      by_cases c3 : (3 ≤ kd ∧ (V p.at_ p.en) = 0)
      · replace hv_ := hv_.trans (congrArg Value.bool (decide_eq_true c3))
        subst hv_
        replace c3 := Aside0.mk c3
        go_upto_region 18 with fail
        refine start_ (n := 8) (S := fun w' => w'.cell? ⟨gp, 0, none⟩ = some (.int .i64 p.at_)) (ds := []) #[false, false, false, false, false, false, false, false] (by kernel_rfl) rfl rfl x0 (fun hHeld => ?_)
        (try clear tc0 tc1 tc2 tc3 tc4); (try clear x0 x1 x2 x3 x4 x5); (try clear y0 y1 y2 y3 y4 y5)
        replace F := Aside0.mk F.out.drew
        generalize wg.drew = wx18 at F hHeld ⊢
        refine pure_ (i := 0) (N := (some 88)) (v := ?_) (a' := ?_) #[true, false, false, false, false, false, false, false] rfl rfl (by kernel_rfl) (fun _ _ _ h => h) (Or.inl ⟨by rfl, ?_⟩) ?_ ?_
        rotate_left
        · intro w'
          go_simp
          with_reducible rfl
        rotate_left
        · simp only [Act.put, List.setIfInBounds_toArray, List.set_cons_zero, List.set_cons_succ, i64_w, i32_w]
          rfl
        refine pure_ (i := 1) (N := (some 89)) (v := ?_) (a' := ?_) #[true, true, false, false, false, false, false, false] rfl rfl (by kernel_rfl) (fun _ _ _ h => h) (Or.inl ⟨by rfl, ?_⟩) ?_ ?_
        rotate_left
        · intro w'
          go_simp
          with_reducible rfl
        rotate_left
        · simp only [Act.put, List.setIfInBounds_toArray, List.set_cons_zero, List.set_cons_succ, i64_w, i32_w]
          rfl
        refine pure_ (i := 2) (N := (some 90)) (v := ?_) (a' := ?_) #[true, true, true, false, false, false, false, false] rfl rfl (by kernel_rfl) (fun _ _ _ h => h) (Or.inl ⟨by rfl, ?_⟩) ?_ ?_
        rotate_left
        · intro w'
          go_simp
          with_reducible rfl
        rotate_left
        · simp only [Act.put, List.setIfInBounds_toArray, List.set_cons_zero, List.set_cons_succ, i64_w, i32_w]
          rfl
        refine pure_ (i := 3) (N := (some 91)) (v := ?_) (a' := ?_) #[true, true, true, true, false, false, false, false] rfl rfl (by kernel_rfl) (fun _ _ _ h => h) (Or.inl ⟨by rfl, ?_⟩) ?_ ?_
        rotate_left
        · intro w'
          go_simp
          with_reducible rfl
        rotate_left
        · simp only [Act.put, List.setIfInBounds_toArray, List.set_cons_zero, List.set_cons_succ, i64_w, i32_w]
          rfl
        refine take_ (i := 4) (N := (some 92)) (v := ?_) (a' := ?_) #[true, true, true, true, true, false, false, false] rfl rfl (by kernel_rfl) (fun _ _ _ h => h) (Or.inl ⟨by rfl, ?_⟩) hHeld ?_ ?_
        rotate_left
        · rintro w' s0
          go_simp
          with_reducible rfl
        rotate_left
        · simp only [Act.put, List.setIfInBounds_toArray, List.set_cons_zero, List.set_cons_succ, i64_w, i32_w]
          rfl
        refine one_ (i := 5) (N := none) #[true, true, true, true, true, true, false, false] rfl rfl (by kernel_rfl) (by decide) (fun K hK => ?_)
        obtain ⟨r0, r1, r2, r3, r4, _⟩ := froz F.out.h2
        obtain ⟨s0, s1, s2, s3, s4⟩ := t5_cells F.out.h2
        have hD := F.out.done (a' := 0) (b' := 0) (c' := 0) (d' := 0) (e' := 0)
        have FD := Aside0.mk hD
        clear hD
        refine skip_ (w1 := ?_) (by rfl) rfl ?_ ?_
        rotate_left
        · go_simp
          rfl
        have hne_ := F.out.ne
        refine hK.out _ _ (cell_far hne_ (cell_far hne_ (cell_far hne_ (cell_far hne_ (cell_far hne_ hHeld))))) (fun hHeld => ?_)
        clear hK K r0 r1 r2 r3 r4 s0 s1 s2 s3 s4 hne_
        refine pure_ (i := 6) (N := (some 3)) (v := ?_) (a' := ?_) #[true, true, true, true, true, true, true, false] rfl rfl (by kernel_rfl) (fun _ _ _ h => h) (Or.inl ⟨by rfl, ?_⟩) ?_ ?_
        rotate_left
        · intro w'
          go_simp
          with_reducible rfl
        rotate_left
        · simp only [Act.put, List.setIfInBounds_toArray, List.set_cons_zero, List.set_cons_succ, i64_w, i32_w]
          rfl
        refine pure_ (i := 7) (N := (some 4)) (v := ?_) (a' := ?_) #[true, true, true, true, true, true, true, true] rfl rfl (by kernel_rfl) (fun _ _ _ h => h) (Or.inl ⟨by rfl, ?_⟩) ?_ ?_
        rotate_left
        · intro w'
          go_simp
          with_reducible rfl
        rotate_left
        · simp only [Act.put, List.setIfInBounds_toArray, List.set_cons_zero, List.set_cons_succ, i64_w, i32_w]
          rfl
        refine done_ (by kernel_rfl) ?_
        try go_wp2
        refine bodyPost_ret (results_ctt rfl _ _ g2 23 (T5 0 0 0 0 0) (0, 0) _ rfl FD.out.1 Try.underlying23 rfl (by kernel_rfl)) rfl ?_
        exact ⟨by rw [hR.out, if_neg (show ¬ (V p.at_ p.en) > 65536 by have := C1.out; omega), if_pos c3.out]; rfl, FD.out.2⟩
      · replace hv_ := hv_.trans (congrArg Value.bool (decide_eq_false c3))
        subst hv_
        have C3 := Aside0.mk c3
        clear c3
        go_upto_region 19 with fail
        go_cut [99] (fun vs wc => vs = .bool (decide (3 ≤ kd ∧ (V p.at_ p.en) = 0)) ∧ wg = wc)
        case first =>
          by_cases k_ : (3 : Int) ≤ kd
          · have k1 : decide ((3 : Int) ≤ kd) = true := decide_eq_true k_
            by_cases z_ : (V p.at_ p.en) = 0
            · have k2 : ((V p.at_ p.en) == 0) = true := by rw [z_]; rfl
              clear z_
              go_wp2
              go_meet
              exact ⟨congrArg Value.bool (decide_eq_true ⟨k_, by simpa using k2⟩).symm, rfl⟩
            · have k2 : ((V p.at_ p.en) == 0) = false := by simpa using z_
              go_wp2
              go_meet
              exact ⟨congrArg Value.bool (decide_eq_false (fun h => z_ h.2)).symm, rfl⟩
          · have k1 : decide ((3 : Int) ≤ kd) = false := decide_eq_false k_
            go_wp2
            go_meet
            exact ⟨congrArg Value.bool (decide_eq_false (fun h => absurd h.1 (by omega))).symm, rfl⟩
        case rest =>
          obtain ⟨hv_, rfl⟩ := hcut
          replace hv_ := hv_.trans (congrArg Value.bool (decide_eq_false C3.out))
          subst hv_
          have HT := Aside0.mk (ht.out (by have := C1.out; omega) C3.out)
          cases tb with
          | true =>
            go_wp2_with (first | (go_at_call 32; (refine (vivariumref04_twist.calls kt s kd (some ⟨gp, 0, none⟩) pc [toR p] ta true _ F.out.inn.1 F.out.inn.2 HT.out).mono ?_); rintro en_ wj ⟨rfl, nd, rfl⟩; (try clear tc0 tc1 tc2 tc3 tc4); (try clear x0 x1 x2 x3 x4 x5); (try clear y0 y1 y2 y3 y4 y5); replace F := Aside0.mk (F.out.drewN nd); generalize World.drewN _ nd = wj at F ⊢; obtain ⟨tc0, tc1, tc2, tc3, tc4⟩ := t5_cells F.out.h7; obtain ⟨x0, x1, x2, x3, x4, x5⟩ := F.out.part 0 rfl; simp only [toR, Nat.zero_mul, Nat.zero_add, Nat.one_mul, Nat.reduceAdd] at x0 x1 x2 x3 x4 x5) | ((with_reducible refine gate_store (t := 23) (p := 2) (v := .tmp 113) rfl ?_); obtain ⟨r0, r1, r2, r3, r4, _⟩ := froz F.out.h2; obtain ⟨s0, s1, s2, s3, s4⟩ := t5_cells F.out.h2; refine store_event (w1 := ?u1wwwz) ?u1hgwz rfl rfl ?u1hrwz ?_; (case u1hgwz => rfl); (case u1hrwz => go_simp; rfl); intro wz hw; clear r0 r1 r2 r3 r4 s0 s1 s2 s3 s4; (try clear tc0 tc1 tc2 tc3 tc4); (try clear x0 x1 x2 x3 x4 x5); (try clear y0 y1 y2 y3 y4 y5); have hD := F.out.done (a' := 0) (b' := 0) (c' := 0) (d' := 0) (e' := 0); rw [← hw] at hD; have FD := Aside0.mk hD; clear hD hw F))
            refine bodyPost_ret (results_ctt rfl _ _ g2 23 (T5 0 0 0 0 0) (0, 0) _ rfl FD.out.1 Try.underlying23 rfl (by kernel_rfl)) rfl ?_
            exact ⟨by rw [hR.out, if_neg (show ¬ (V p.at_ p.en) > 65536 by have := C1.out; omega), if_neg C3.out]; rfl, FD.out.2⟩
          | false =>
            have HS := Aside0.mk (hsf.out (by have := C1.out; omega) C3.out rfl)
            cases sb with
            | true =>
              go_wp2_with (first | (go_at_call 32; (refine (vivariumref04_twist.calls kt s kd (some ⟨gp, 0, none⟩) pc [toR p] ta false _ F.out.inn.1 F.out.inn.2 HT.out).mono ?_); rintro en_ wj ⟨rfl, nd, rfl⟩; (try clear tc0 tc1 tc2 tc3 tc4); (try clear x0 x1 x2 x3 x4 x5); (try clear y0 y1 y2 y3 y4 y5); replace F := Aside0.mk (F.out.drewN nd); generalize World.drewN _ nd = wj at F ⊢; obtain ⟨tc0, tc1, tc2, tc3, tc4⟩ := t5_cells F.out.h7; obtain ⟨x0, x1, x2, x3, x4, x5⟩ := F.out.part 0 rfl; simp only [toR, Nat.zero_mul, Nat.zero_add, Nat.one_mul, Nat.reduceAdd] at x0 x1 x2 x3 x4 x5) | (go_at_call 33; (refine (vivariumref04_shift.calls ks s kd (some ⟨gp, 0, none⟩) pc [toR p] (V p.at_ p.en) (V p.at_ p.en) sa true _ F.out.inn.1 F.out.inn.2 HS.out).mono ?_); rintro en_ wk ⟨rfl, hb⟩; (try clear tc0 tc1 tc2 tc3 tc4); (try clear x0 x1 x2 x3 x4 x5); (try clear y0 y1 y2 y3 y4 y5); replace F := Aside0.mk (F.out.on hb); clear hb; obtain ⟨tc0, tc1, tc2, tc3, tc4⟩ := t5_cells F.out.h7; obtain ⟨x0, x1, x2, x3, x4, x5⟩ := F.out.part 0 rfl; simp only [toR, Nat.zero_mul, Nat.zero_add, Nat.one_mul, Nat.reduceAdd] at x0 x1 x2 x3 x4 x5) | ((with_reducible refine gate_store (t := 23) (p := 2) (v := .tmp 127) rfl ?_); obtain ⟨r0, r1, r2, r3, r4, _⟩ := froz F.out.h2; obtain ⟨s0, s1, s2, s3, s4⟩ := t5_cells F.out.h2; refine store_event (w1 := ?u2wwwz) ?u2hgwz rfl rfl ?u2hrwz ?_; (case u2hgwz => rfl); (case u2hrwz => go_simp; rfl); intro wz hw; clear r0 r1 r2 r3 r4 s0 s1 s2 s3 s4; (try clear tc0 tc1 tc2 tc3 tc4); (try clear x0 x1 x2 x3 x4 x5); (try clear y0 y1 y2 y3 y4 y5); have hD := F.out.done (a' := 0) (b' := 0) (c' := 0) (d' := 0) (e' := 0); rw [← hw] at hD; have FD := Aside0.mk hD; clear hD hw F))
              refine bodyPost_ret (results_ctt rfl _ _ g2 23 (T5 0 0 0 0 0) (0, 0) _ rfl FD.out.1 Try.underlying23 rfl (by kernel_rfl)) rfl ?_
              exact ⟨by rw [hR.out, if_neg (show ¬ (V p.at_ p.en) > 65536 by have := C1.out; omega), if_neg C3.out]; rfl, FD.out.2⟩
            | false =>
              have HVR := Aside0.mk (hVr.out (by have := C1.out; omega) C3.out rfl rfl)
              go_wp2_with (first | (go_at_call 32; (refine (vivariumref04_twist.calls kt s kd (some ⟨gp, 0, none⟩) pc [toR p] ta false _ F.out.inn.1 F.out.inn.2 HT.out).mono ?_); rintro en_ wj ⟨rfl, nd, rfl⟩; (try clear tc0 tc1 tc2 tc3 tc4); (try clear x0 x1 x2 x3 x4 x5); (try clear y0 y1 y2 y3 y4 y5); replace F := Aside0.mk (F.out.drewN nd); generalize World.drewN _ nd = wj at F ⊢; obtain ⟨tc0, tc1, tc2, tc3, tc4⟩ := t5_cells F.out.h7; obtain ⟨x0, x1, x2, x3, x4, x5⟩ := F.out.part 0 rfl; simp only [toR, Nat.zero_mul, Nat.zero_add, Nat.one_mul, Nat.reduceAdd] at x0 x1 x2 x3 x4 x5) | (go_at_call 33; (refine (vivariumref04_shift.calls ks s kd (some ⟨gp, 0, none⟩) pc [toR p] (V p.at_ p.en) (V p.at_ p.en) sa false _ F.out.inn.1 F.out.inn.2 HS.out).mono ?_); rintro en_ wk ⟨rfl, hb⟩; (try clear tc0 tc1 tc2 tc3 tc4); (try clear x0 x1 x2 x3 x4 x5); (try clear y0 y1 y2 y3 y4 y5); replace F := Aside0.mk (F.out.on hb); clear hb; obtain ⟨tc0, tc1, tc2, tc3, tc4⟩ := t5_cells F.out.h7; obtain ⟨x0, x1, x2, x3, x4, x5⟩ := F.out.part 0 rfl; simp only [toR, Nat.zero_mul, Nat.zero_add, Nat.one_mul, Nat.reduceAdd] at x0 x1 x2 x3 x4 x5))
              clear tc0 tc1 tc2 tc3 tc4 x0 x1 x2 x3 x4 x5
              go_loopg [11] 2 (fun kq v11 w' => ∃ (i : Nat) (tu sh : Int), v11 = .int .i64 (i : Int) ∧ Aside0 (kq + i = 2 ∧ i ≤ 1) ∧ Aside0 (turnsV V s ([p].drop i) (i : Int) (tu, sh) = turnsV V s [p] 0 (0, 0)) ∧ Aside0 (K w w' g2 g7 gp pc [toR p] kd (V p.at_ p.en) (V p.at_ p.en) tu sh))
              case atStart => exact ⟨0, 0, 0, rfl, ⟨by omega, by omega⟩, ⟨rfl⟩, F⟩
              case round =>
                obtain ⟨i, tu, sh, rfl, hk, ht, F⟩ := hrel
                have hk1 := hk.out
                have hi_ : i = 0 ∨ i = 1 := by omega
                clear hk1
                rcases hi_ with rfl | rfl
                · by_cases cG : p.sign < 0
                  · by_cases cS : p.star < 0
                    · have cSb : decide ((0 : Int) ≤ p.star) = false := decide_eq_false (by omega)
                      have cGb : decide ((0 : Int) ≤ p.sign) = false := decide_eq_false (by omega)
                      have hst : (if p.star < 0 ∧ p.sign < 0 then (tu, sh) else (1 + ((0 : Nat) : Int), if 0 ≤ p.sign then (if bt s p.sign = 45 then -(V p.fr p.to_) else (V p.fr p.to_)) else sh)) = ((tu, sh) : Int × Int) := by rw [if_pos ⟨cS, cG⟩]
                      have N12 := Aside0.mk (Nat.ne_of_lt (blk_lt F.out.h7))
                      obtain ⟨tc0, tc1, tc2, tc3, tc4⟩ := t5_cells F.out.h7
                      obtain ⟨x0, x1, x2, x3, x4, x5⟩ := F.out.part 0 rfl
                      simp only [toR, Nat.zero_mul, Nat.zero_add, Nat.one_mul, Nat.reduceAdd] at x0 x1 x2 x3 x4 x5
                      go_wp2
                      go_roundg 1
                      case measure => have := hk.out; omega
                      case rel => exact ⟨1, tu, sh, by go_num, ⟨by omega, by omega⟩, ⟨(congrArg (turnsV V s ([p].drop 1) ((1 : Nat) : Int)) hst).symm.trans ht.out⟩, ⟨F.out.on (below_alloc (Below.refl _ _) _)⟩⟩
                    · have cSb : decide ((0 : Int) ≤ p.star) = true := decide_eq_true (by omega)
                      have cGb : decide ((0 : Int) ≤ p.sign) = false := decide_eq_false (by omega)
                      have hst : (if p.star < 0 ∧ p.sign < 0 then (tu, sh) else (1 + ((0 : Nat) : Int), if 0 ≤ p.sign then (if bt s p.sign = 45 then -(V p.fr p.to_) else (V p.fr p.to_)) else sh)) = ((1, sh) : Int × Int) := by rw [if_neg (fun h => cS h.1), if_neg (by omega)]; rfl
                      have N12 := Aside0.mk (Nat.ne_of_lt (blk_lt F.out.h7))
                      obtain ⟨tc0, tc1, tc2, tc3, tc4⟩ := t5_cells F.out.h7
                      obtain ⟨x0, x1, x2, x3, x4, x5⟩ := F.out.part 0 rfl
                      simp only [toR, Nat.zero_mul, Nat.zero_add, Nat.one_mul, Nat.reduceAdd] at x0 x1 x2 x3 x4 x5
                      go_wp2_with (first | ((with_reducible refine gate_store (t := 5) (p := 150) (v := .tmp 149) rfl ?_); have hb_ := below_alloc (Below.refl wr.heap.size wr) (.cells #[.int .i64 (p.at_ : Int), .int .i64 (p.en : Int), .int .i64 p.star, .int .i64 p.sign, .int .i64 (p.fr : Int), .int .i64 (p.to_ : Int)] 66); have h12_ := blk_new wr (.cells #[.int .i64 (p.at_ : Int), .int .i64 (p.en : Int), .int .i64 p.star, .int .i64 p.sign, .int .i64 (p.fr : Int), .int .i64 (p.to_ : Int)] 66); generalize wr.alloc (.cells #[.int .i64 (p.at_ : Int), .int .i64 (p.en : Int), .int .i64 p.star, .int .i64 p.sign, .int .i64 (p.fr : Int), .int .i64 (p.to_ : Int)] 66) = wx at hb_ h12_ ⊢; (try clear tc0 tc1 tc2 tc3 tc4); (try clear x0 x1 x2 x3 x4 x5); (try clear y0 y1 y2 y3 y4 y5); replace F := Aside0.mk (F.out.on hb_); obtain ⟨tc0, tc1, tc2, tc3, tc4⟩ := t5_cells F.out.h7; obtain ⟨x0, x1, x2, x3, x4, x5⟩ := F.out.part 0 rfl; simp only [toR, Nat.zero_mul, Nat.zero_add, Nat.one_mul, Nat.reduceAdd] at x0 x1 x2 x3 x4 x5; obtain ⟨r0, r1, r2, r3, r4, _⟩ := froz F.out.h7; refine store_event (w1 := ?wwL2wm) ?hgL2wm rfl rfl ?hrL2wm ?_; (case hgL2wm => rfl); (case hrL2wm => go_simp; rfl); intro wm hw; clear r0 r1 r2 r3 r4; (try clear tc0 tc1 tc2 tc3 tc4); (try clear x0 x1 x2 x3 x4 x5); (try clear y0 y1 y2 y3 y4 y5); have hF_ : K w wm g2 g7 gp pc [toR p] kd (V p.at_ p.en) (V p.at_ p.en) 1 sh := (by rw [hw]; exact F.out.set 3 (.int .u8 1) rfl); have h13_ : wm.heap[wr.heap.size]? = some (.cells (P6 p.at_ p.en p.star p.sign p.fr p.to_) 66 (0, 0)) := (by rw [hw]; exact blk_far h12_ (p := ⟨g7, 3, none⟩) (Ne.symm N12.out) _); have H12 := Aside0.mk h13_; replace F := Aside0.mk hF_; clear hF_ hw h12_ h13_ hb_; obtain ⟨tc0, tc1, tc2, tc3, tc4⟩ := t5_cells F.out.h7; obtain ⟨x0, x1, x2, x3, x4, x5⟩ := F.out.part 0 rfl; simp only [toR, Nat.zero_mul, Nat.zero_add, Nat.one_mul, Nat.reduceAdd] at x0 x1 x2 x3 x4 x5; obtain ⟨z0, z1, z2, z3, z4, z5⟩ := p6_cells H12.out))
                      go_roundg 1
                      case measure => have := hk.out; omega
                      case rel => exact ⟨1, 1, sh, by go_num, ⟨by omega, by omega⟩, ⟨(congrArg (turnsV V s ([p].drop 1) ((1 : Nat) : Int)) hst).symm.trans ht.out⟩, F⟩
                  · obtain ⟨m, hm, hml⟩ := (GP.out.o5).resolve_left cG
                    rw [hm] at cG
                    have cG2 : decide ((0 : Int) ≤ (m : Int)) = true := decide_eq_true (by omega)
                    have m1 : ((m : Int) < (s.size : Int)) = True := eq_true (by omega)
                    have m2 : ((0 : Int) ≤ (m : Int)) = True := eq_true (by omega)
                    have m3 : ∀ h : m < s.size, ((s[m]'h).toNat : Int) = bt s (m : Int) := bt_at s (m : Int)
                    have e1 : (0 : Int) ≤ (p.fr : Int) := by omega
                    have e2 : (p.fr : Int) ≤ (p.to_ : Int) := by have := GP.out.o3; omega
                    have e3 : (0 : Int) ≤ (p.to_ : Int) := by omega
                    have e4 : (p.to_ : Int) ≤ (s.size : Int) := by have := GP.out.o4; omega
                    have HNG := Aside0.mk (show wrap64 (-(V p.fr p.to_)) = -(V p.fr p.to_) by have := HVR.out p.fr p.to_; unfold wrap64; omega)
                    by_cases cM : bt s (m : Int) = 45
                    · have cMb : (bt s (m : Int) == 45) = true := by rw [cM]; rfl
                      have hst : (if p.star < 0 ∧ p.sign < 0 then (tu, sh) else (1 + ((0 : Nat) : Int), if 0 ≤ p.sign then (if bt s p.sign = 45 then -(V p.fr p.to_) else (V p.fr p.to_)) else sh)) = ((1, (-(V p.fr p.to_))) : Int × Int) := by rw [hm, if_neg (fun h => cG h.2), if_pos (by omega), if_pos cM]; rfl
                      by_cases cS : p.star < 0
                      · have cSb : decide ((0 : Int) ≤ p.star) = false := decide_eq_false (by omega)
                        have N12 := Aside0.mk (Nat.ne_of_lt (blk_lt F.out.h7))
                        obtain ⟨tc0, tc1, tc2, tc3, tc4⟩ := t5_cells F.out.h7
                        obtain ⟨x0, x1, x2, x3, x4, x5⟩ := F.out.part 0 rfl
                        simp only [toR, Nat.zero_mul, Nat.zero_add, Nat.one_mul, Nat.reduceAdd] at x0 x1 x2 x3 x4 x5
                        rw [hm] at x3
                        go_wp2_with (first | ((with_reducible refine gate_store (t := 5) (p := 150) (v := .tmp 149) rfl ?_); have hb_ := below_alloc (Below.refl wr.heap.size wr) (.cells #[.int .i64 (p.at_ : Int), .int .i64 (p.en : Int), .int .i64 p.star, .int .i64 (m : Int), .int .i64 (p.fr : Int), .int .i64 (p.to_ : Int)] 66); have h12_ := blk_new wr (.cells #[.int .i64 (p.at_ : Int), .int .i64 (p.en : Int), .int .i64 p.star, .int .i64 (m : Int), .int .i64 (p.fr : Int), .int .i64 (p.to_ : Int)] 66); generalize wr.alloc (.cells #[.int .i64 (p.at_ : Int), .int .i64 (p.en : Int), .int .i64 p.star, .int .i64 (m : Int), .int .i64 (p.fr : Int), .int .i64 (p.to_ : Int)] 66) = wx at hb_ h12_ ⊢; (try clear tc0 tc1 tc2 tc3 tc4); (try clear x0 x1 x2 x3 x4 x5); (try clear y0 y1 y2 y3 y4 y5); replace F := Aside0.mk (F.out.on hb_); obtain ⟨tc0, tc1, tc2, tc3, tc4⟩ := t5_cells F.out.h7; obtain ⟨x0, x1, x2, x3, x4, x5⟩ := F.out.part 0 rfl; simp only [toR, Nat.zero_mul, Nat.zero_add, Nat.one_mul, Nat.reduceAdd] at x0 x1 x2 x3 x4 x5; obtain ⟨r0, r1, r2, r3, r4, _⟩ := froz F.out.h7; refine store_event (w1 := ?wwL3wm) ?hgL3wm rfl rfl ?hrL3wm ?_; (case hgL3wm => rfl); (case hrL3wm => go_simp; rfl); intro wm hw; clear r0 r1 r2 r3 r4; (try clear tc0 tc1 tc2 tc3 tc4); (try clear x0 x1 x2 x3 x4 x5); (try clear y0 y1 y2 y3 y4 y5); have hF_ : K w wm g2 g7 gp pc [toR p] kd (V p.at_ p.en) (V p.at_ p.en) 1 sh := (by rw [hw]; exact F.out.set 3 (.int .u8 1) rfl); have h13_ : wm.heap[wr.heap.size]? = some (.cells (P6 p.at_ p.en p.star (m : Int) p.fr p.to_) 66 (0, 0)) := (by rw [hw]; exact blk_far h12_ (p := ⟨g7, 3, none⟩) (Ne.symm N12.out) _); have H12 := Aside0.mk h13_; replace F := Aside0.mk hF_; clear hF_ hw h12_ h13_ hb_; obtain ⟨tc0, tc1, tc2, tc3, tc4⟩ := t5_cells F.out.h7; obtain ⟨x0, x1, x2, x3, x4, x5⟩ := F.out.part 0 rfl; simp only [toR, Nat.zero_mul, Nat.zero_add, Nat.one_mul, Nat.reduceAdd] at x0 x1 x2 x3 x4 x5; obtain ⟨z0, z1, z2, z3, z4, z5⟩ := p6_cells H12.out) | (go_at_call 31; (with_reducible refine (vivariumref04_worth.calls kw (s.extract p.fr p.to_) (V p.fr p.to_) _ (HV.out _ _ GP.out.o3 GP.out.o4)).mono ?_); rintro en_ wn ⟨rfl, nd, rfl⟩; (try clear tc0 tc1 tc2 tc3 tc4); (try clear x0 x1 x2 x3 x4 x5); (try clear y0 y1 y2 y3 y4 y5); clear z0 z1 z2 z3 z4 z5; replace H12 := Aside0.mk (blk_drewN H12.out nd); replace F := Aside0.mk (F.out.drewN nd); generalize World.drewN _ nd = wn at F H12 ⊢; obtain ⟨tc0, tc1, tc2, tc3, tc4⟩ := t5_cells F.out.h7; obtain ⟨x0, x1, x2, x3, x4, x5⟩ := F.out.part 0 rfl; simp only [toR, Nat.zero_mul, Nat.zero_add, Nat.one_mul, Nat.reduceAdd] at x0 x1 x2 x3 x4 x5; obtain ⟨z0, z1, z2, z3, z4, z5⟩ := p6_cells H12.out) | ((with_reducible refine gate_store (t := 3) (p := 161) (v := .tmp 160) rfl ?_); obtain ⟨r0, r1, r2, r3, r4, _⟩ := froz F.out.h7; refine store_event (w1 := ?wwL3wo) ?hgL3wo rfl rfl ?hrL3wo ?_; (case hgL3wo => rfl); (case hrL3wo => go_simp; rfl); intro wo hw; clear r0 r1 r2 r3 r4; (try clear tc0 tc1 tc2 tc3 tc4); (try clear x0 x1 x2 x3 x4 x5); (try clear y0 y1 y2 y3 y4 y5); clear z0 z1 z2 z3 z4 z5; have hF_ : K w wo g2 g7 gp pc [toR p] kd (V p.at_ p.en) (V p.at_ p.en) 1 (V p.fr p.to_) := (by rw [hw]; exact F.out.set 4 (.int .i64 (V p.fr p.to_)) rfl); have h12_ : wo.heap[wr.heap.size]? = some (.cells (P6 p.at_ p.en p.star (m : Int) p.fr p.to_) 66 (0, 0)) := (by rw [hw]; exact blk_far H12.out (p := ⟨g7, 4, none⟩) (Ne.symm N12.out) _); replace H12 := Aside0.mk h12_; replace F := Aside0.mk hF_; clear hF_ hw h12_; obtain ⟨tc0, tc1, tc2, tc3, tc4⟩ := t5_cells F.out.h7; obtain ⟨x0, x1, x2, x3, x4, x5⟩ := F.out.part 0 rfl; simp only [toR, Nat.zero_mul, Nat.zero_add, Nat.one_mul, Nat.reduceAdd] at x0 x1 x2 x3 x4 x5; obtain ⟨z0, z1, z2, z3, z4, z5⟩ := p6_cells H12.out) | ((with_reducible refine gate_store (t := 3) (p := 170) (v := .tmp 169) rfl ?_); obtain ⟨r0, r1, r2, r3, r4, _⟩ := froz F.out.h7; refine store_event (w1 := ?wwL3wq) ?hgL3wq rfl rfl ?hrL3wq ?_; (case hgL3wq => rfl); (case hrL3wq => go_simp; rfl); intro wq hw; clear r0 r1 r2 r3 r4; (try clear tc0 tc1 tc2 tc3 tc4); (try clear x0 x1 x2 x3 x4 x5); (try clear y0 y1 y2 y3 y4 y5); clear z0 z1 z2 z3 z4 z5; have hF_ : K w wq g2 g7 gp pc [toR p] kd (V p.at_ p.en) (V p.at_ p.en) 1 (-(V p.fr p.to_)) := (by rw [hw]; (try rw [HNG.out]); exact F.out.set 4 (.int .i64 (-(V p.fr p.to_))) rfl); have h12_ : wq.heap[wr.heap.size]? = some (.cells (P6 p.at_ p.en p.star (m : Int) p.fr p.to_) 66 (0, 0)) := (by rw [hw]; exact blk_far H12.out (p := ⟨g7, 4, none⟩) (Ne.symm N12.out) _); replace H12 := Aside0.mk h12_; replace F := Aside0.mk hF_; clear hF_ hw h12_; obtain ⟨tc0, tc1, tc2, tc3, tc4⟩ := t5_cells F.out.h7; obtain ⟨x0, x1, x2, x3, x4, x5⟩ := F.out.part 0 rfl; simp only [toR, Nat.zero_mul, Nat.zero_add, Nat.one_mul, Nat.reduceAdd] at x0 x1 x2 x3 x4 x5; obtain ⟨z0, z1, z2, z3, z4, z5⟩ := p6_cells H12.out))
                        go_roundg 1
                        case measure => have := hk.out; omega
                        case rel => exact ⟨1, 1, (-(V p.fr p.to_)), by go_num, ⟨by omega, by omega⟩, ⟨(congrArg (turnsV V s ([p].drop 1) ((1 : Nat) : Int)) hst).symm.trans ht.out⟩, F⟩
                      · have cSb : decide ((0 : Int) ≤ p.star) = true := decide_eq_true (by omega)
                        have N12 := Aside0.mk (Nat.ne_of_lt (blk_lt F.out.h7))
                        obtain ⟨tc0, tc1, tc2, tc3, tc4⟩ := t5_cells F.out.h7
                        obtain ⟨x0, x1, x2, x3, x4, x5⟩ := F.out.part 0 rfl
                        simp only [toR, Nat.zero_mul, Nat.zero_add, Nat.one_mul, Nat.reduceAdd] at x0 x1 x2 x3 x4 x5
                        rw [hm] at x3
                        go_wp2_with (first | ((with_reducible refine gate_store (t := 5) (p := 150) (v := .tmp 149) rfl ?_); have hb_ := below_alloc (Below.refl wr.heap.size wr) (.cells #[.int .i64 (p.at_ : Int), .int .i64 (p.en : Int), .int .i64 p.star, .int .i64 (m : Int), .int .i64 (p.fr : Int), .int .i64 (p.to_ : Int)] 66); have h12_ := blk_new wr (.cells #[.int .i64 (p.at_ : Int), .int .i64 (p.en : Int), .int .i64 p.star, .int .i64 (m : Int), .int .i64 (p.fr : Int), .int .i64 (p.to_ : Int)] 66); generalize wr.alloc (.cells #[.int .i64 (p.at_ : Int), .int .i64 (p.en : Int), .int .i64 p.star, .int .i64 (m : Int), .int .i64 (p.fr : Int), .int .i64 (p.to_ : Int)] 66) = wx at hb_ h12_ ⊢; (try clear tc0 tc1 tc2 tc3 tc4); (try clear x0 x1 x2 x3 x4 x5); (try clear y0 y1 y2 y3 y4 y5); replace F := Aside0.mk (F.out.on hb_); obtain ⟨tc0, tc1, tc2, tc3, tc4⟩ := t5_cells F.out.h7; obtain ⟨x0, x1, x2, x3, x4, x5⟩ := F.out.part 0 rfl; simp only [toR, Nat.zero_mul, Nat.zero_add, Nat.one_mul, Nat.reduceAdd] at x0 x1 x2 x3 x4 x5; obtain ⟨r0, r1, r2, r3, r4, _⟩ := froz F.out.h7; refine store_event (w1 := ?wwL4wm) ?hgL4wm rfl rfl ?hrL4wm ?_; (case hgL4wm => rfl); (case hrL4wm => go_simp; rfl); intro wm hw; clear r0 r1 r2 r3 r4; (try clear tc0 tc1 tc2 tc3 tc4); (try clear x0 x1 x2 x3 x4 x5); (try clear y0 y1 y2 y3 y4 y5); have hF_ : K w wm g2 g7 gp pc [toR p] kd (V p.at_ p.en) (V p.at_ p.en) 1 sh := (by rw [hw]; exact F.out.set 3 (.int .u8 1) rfl); have h13_ : wm.heap[wr.heap.size]? = some (.cells (P6 p.at_ p.en p.star (m : Int) p.fr p.to_) 66 (0, 0)) := (by rw [hw]; exact blk_far h12_ (p := ⟨g7, 3, none⟩) (Ne.symm N12.out) _); have H12 := Aside0.mk h13_; replace F := Aside0.mk hF_; clear hF_ hw h12_ h13_ hb_; obtain ⟨tc0, tc1, tc2, tc3, tc4⟩ := t5_cells F.out.h7; obtain ⟨x0, x1, x2, x3, x4, x5⟩ := F.out.part 0 rfl; simp only [toR, Nat.zero_mul, Nat.zero_add, Nat.one_mul, Nat.reduceAdd] at x0 x1 x2 x3 x4 x5; obtain ⟨z0, z1, z2, z3, z4, z5⟩ := p6_cells H12.out) | (go_at_call 31; (with_reducible refine (vivariumref04_worth.calls kw (s.extract p.fr p.to_) (V p.fr p.to_) _ (HV.out _ _ GP.out.o3 GP.out.o4)).mono ?_); rintro en_ wn ⟨rfl, nd, rfl⟩; (try clear tc0 tc1 tc2 tc3 tc4); (try clear x0 x1 x2 x3 x4 x5); (try clear y0 y1 y2 y3 y4 y5); clear z0 z1 z2 z3 z4 z5; replace H12 := Aside0.mk (blk_drewN H12.out nd); replace F := Aside0.mk (F.out.drewN nd); generalize World.drewN _ nd = wn at F H12 ⊢; obtain ⟨tc0, tc1, tc2, tc3, tc4⟩ := t5_cells F.out.h7; obtain ⟨x0, x1, x2, x3, x4, x5⟩ := F.out.part 0 rfl; simp only [toR, Nat.zero_mul, Nat.zero_add, Nat.one_mul, Nat.reduceAdd] at x0 x1 x2 x3 x4 x5; obtain ⟨z0, z1, z2, z3, z4, z5⟩ := p6_cells H12.out) | ((with_reducible refine gate_store (t := 3) (p := 161) (v := .tmp 160) rfl ?_); obtain ⟨r0, r1, r2, r3, r4, _⟩ := froz F.out.h7; refine store_event (w1 := ?wwL4wo) ?hgL4wo rfl rfl ?hrL4wo ?_; (case hgL4wo => rfl); (case hrL4wo => go_simp; rfl); intro wo hw; clear r0 r1 r2 r3 r4; (try clear tc0 tc1 tc2 tc3 tc4); (try clear x0 x1 x2 x3 x4 x5); (try clear y0 y1 y2 y3 y4 y5); clear z0 z1 z2 z3 z4 z5; have hF_ : K w wo g2 g7 gp pc [toR p] kd (V p.at_ p.en) (V p.at_ p.en) 1 (V p.fr p.to_) := (by rw [hw]; exact F.out.set 4 (.int .i64 (V p.fr p.to_)) rfl); have h12_ : wo.heap[wr.heap.size]? = some (.cells (P6 p.at_ p.en p.star (m : Int) p.fr p.to_) 66 (0, 0)) := (by rw [hw]; exact blk_far H12.out (p := ⟨g7, 4, none⟩) (Ne.symm N12.out) _); replace H12 := Aside0.mk h12_; replace F := Aside0.mk hF_; clear hF_ hw h12_; obtain ⟨tc0, tc1, tc2, tc3, tc4⟩ := t5_cells F.out.h7; obtain ⟨x0, x1, x2, x3, x4, x5⟩ := F.out.part 0 rfl; simp only [toR, Nat.zero_mul, Nat.zero_add, Nat.one_mul, Nat.reduceAdd] at x0 x1 x2 x3 x4 x5; obtain ⟨z0, z1, z2, z3, z4, z5⟩ := p6_cells H12.out) | ((with_reducible refine gate_store (t := 3) (p := 170) (v := .tmp 169) rfl ?_); obtain ⟨r0, r1, r2, r3, r4, _⟩ := froz F.out.h7; refine store_event (w1 := ?wwL4wq) ?hgL4wq rfl rfl ?hrL4wq ?_; (case hgL4wq => rfl); (case hrL4wq => go_simp; rfl); intro wq hw; clear r0 r1 r2 r3 r4; (try clear tc0 tc1 tc2 tc3 tc4); (try clear x0 x1 x2 x3 x4 x5); (try clear y0 y1 y2 y3 y4 y5); clear z0 z1 z2 z3 z4 z5; have hF_ : K w wq g2 g7 gp pc [toR p] kd (V p.at_ p.en) (V p.at_ p.en) 1 (-(V p.fr p.to_)) := (by rw [hw]; (try rw [HNG.out]); exact F.out.set 4 (.int .i64 (-(V p.fr p.to_))) rfl); have h12_ : wq.heap[wr.heap.size]? = some (.cells (P6 p.at_ p.en p.star (m : Int) p.fr p.to_) 66 (0, 0)) := (by rw [hw]; exact blk_far H12.out (p := ⟨g7, 4, none⟩) (Ne.symm N12.out) _); replace H12 := Aside0.mk h12_; replace F := Aside0.mk hF_; clear hF_ hw h12_; obtain ⟨tc0, tc1, tc2, tc3, tc4⟩ := t5_cells F.out.h7; obtain ⟨x0, x1, x2, x3, x4, x5⟩ := F.out.part 0 rfl; simp only [toR, Nat.zero_mul, Nat.zero_add, Nat.one_mul, Nat.reduceAdd] at x0 x1 x2 x3 x4 x5; obtain ⟨z0, z1, z2, z3, z4, z5⟩ := p6_cells H12.out))
                        go_roundg 1
                        case measure => have := hk.out; omega
                        case rel => exact ⟨1, 1, (-(V p.fr p.to_)), by go_num, ⟨by omega, by omega⟩, ⟨(congrArg (turnsV V s ([p].drop 1) ((1 : Nat) : Int)) hst).symm.trans ht.out⟩, F⟩
                    · have cMb : (bt s (m : Int) == 45) = false := by simpa using cM
                      have hst : (if p.star < 0 ∧ p.sign < 0 then (tu, sh) else (1 + ((0 : Nat) : Int), if 0 ≤ p.sign then (if bt s p.sign = 45 then -(V p.fr p.to_) else (V p.fr p.to_)) else sh)) = ((1, (V p.fr p.to_)) : Int × Int) := by rw [hm, if_neg (fun h => cG h.2), if_pos (by omega), if_neg cM]; rfl
                      by_cases cS : p.star < 0
                      · have cSb : decide ((0 : Int) ≤ p.star) = false := decide_eq_false (by omega)
                        have N12 := Aside0.mk (Nat.ne_of_lt (blk_lt F.out.h7))
                        obtain ⟨tc0, tc1, tc2, tc3, tc4⟩ := t5_cells F.out.h7
                        obtain ⟨x0, x1, x2, x3, x4, x5⟩ := F.out.part 0 rfl
                        simp only [toR, Nat.zero_mul, Nat.zero_add, Nat.one_mul, Nat.reduceAdd] at x0 x1 x2 x3 x4 x5
                        rw [hm] at x3
                        go_wp2_with (first | ((with_reducible refine gate_store (t := 5) (p := 150) (v := .tmp 149) rfl ?_); have hb_ := below_alloc (Below.refl wr.heap.size wr) (.cells #[.int .i64 (p.at_ : Int), .int .i64 (p.en : Int), .int .i64 p.star, .int .i64 (m : Int), .int .i64 (p.fr : Int), .int .i64 (p.to_ : Int)] 66); have h12_ := blk_new wr (.cells #[.int .i64 (p.at_ : Int), .int .i64 (p.en : Int), .int .i64 p.star, .int .i64 (m : Int), .int .i64 (p.fr : Int), .int .i64 (p.to_ : Int)] 66); generalize wr.alloc (.cells #[.int .i64 (p.at_ : Int), .int .i64 (p.en : Int), .int .i64 p.star, .int .i64 (m : Int), .int .i64 (p.fr : Int), .int .i64 (p.to_ : Int)] 66) = wx at hb_ h12_ ⊢; (try clear tc0 tc1 tc2 tc3 tc4); (try clear x0 x1 x2 x3 x4 x5); (try clear y0 y1 y2 y3 y4 y5); replace F := Aside0.mk (F.out.on hb_); obtain ⟨tc0, tc1, tc2, tc3, tc4⟩ := t5_cells F.out.h7; obtain ⟨x0, x1, x2, x3, x4, x5⟩ := F.out.part 0 rfl; simp only [toR, Nat.zero_mul, Nat.zero_add, Nat.one_mul, Nat.reduceAdd] at x0 x1 x2 x3 x4 x5; obtain ⟨r0, r1, r2, r3, r4, _⟩ := froz F.out.h7; refine store_event (w1 := ?wwL5wm) ?hgL5wm rfl rfl ?hrL5wm ?_; (case hgL5wm => rfl); (case hrL5wm => go_simp; rfl); intro wm hw; clear r0 r1 r2 r3 r4; (try clear tc0 tc1 tc2 tc3 tc4); (try clear x0 x1 x2 x3 x4 x5); (try clear y0 y1 y2 y3 y4 y5); have hF_ : K w wm g2 g7 gp pc [toR p] kd (V p.at_ p.en) (V p.at_ p.en) 1 sh := (by rw [hw]; exact F.out.set 3 (.int .u8 1) rfl); have h13_ : wm.heap[wr.heap.size]? = some (.cells (P6 p.at_ p.en p.star (m : Int) p.fr p.to_) 66 (0, 0)) := (by rw [hw]; exact blk_far h12_ (p := ⟨g7, 3, none⟩) (Ne.symm N12.out) _); have H12 := Aside0.mk h13_; replace F := Aside0.mk hF_; clear hF_ hw h12_ h13_ hb_; obtain ⟨tc0, tc1, tc2, tc3, tc4⟩ := t5_cells F.out.h7; obtain ⟨x0, x1, x2, x3, x4, x5⟩ := F.out.part 0 rfl; simp only [toR, Nat.zero_mul, Nat.zero_add, Nat.one_mul, Nat.reduceAdd] at x0 x1 x2 x3 x4 x5; obtain ⟨z0, z1, z2, z3, z4, z5⟩ := p6_cells H12.out) | (go_at_call 31; (with_reducible refine (vivariumref04_worth.calls kw (s.extract p.fr p.to_) (V p.fr p.to_) _ (HV.out _ _ GP.out.o3 GP.out.o4)).mono ?_); rintro en_ wn ⟨rfl, nd, rfl⟩; (try clear tc0 tc1 tc2 tc3 tc4); (try clear x0 x1 x2 x3 x4 x5); (try clear y0 y1 y2 y3 y4 y5); clear z0 z1 z2 z3 z4 z5; replace H12 := Aside0.mk (blk_drewN H12.out nd); replace F := Aside0.mk (F.out.drewN nd); generalize World.drewN _ nd = wn at F H12 ⊢; obtain ⟨tc0, tc1, tc2, tc3, tc4⟩ := t5_cells F.out.h7; obtain ⟨x0, x1, x2, x3, x4, x5⟩ := F.out.part 0 rfl; simp only [toR, Nat.zero_mul, Nat.zero_add, Nat.one_mul, Nat.reduceAdd] at x0 x1 x2 x3 x4 x5; obtain ⟨z0, z1, z2, z3, z4, z5⟩ := p6_cells H12.out) | ((with_reducible refine gate_store (t := 3) (p := 161) (v := .tmp 160) rfl ?_); obtain ⟨r0, r1, r2, r3, r4, _⟩ := froz F.out.h7; refine store_event (w1 := ?wwL5wo) ?hgL5wo rfl rfl ?hrL5wo ?_; (case hgL5wo => rfl); (case hrL5wo => go_simp; rfl); intro wo hw; clear r0 r1 r2 r3 r4; (try clear tc0 tc1 tc2 tc3 tc4); (try clear x0 x1 x2 x3 x4 x5); (try clear y0 y1 y2 y3 y4 y5); clear z0 z1 z2 z3 z4 z5; have hF_ : K w wo g2 g7 gp pc [toR p] kd (V p.at_ p.en) (V p.at_ p.en) 1 (V p.fr p.to_) := (by rw [hw]; exact F.out.set 4 (.int .i64 (V p.fr p.to_)) rfl); have h12_ : wo.heap[wr.heap.size]? = some (.cells (P6 p.at_ p.en p.star (m : Int) p.fr p.to_) 66 (0, 0)) := (by rw [hw]; exact blk_far H12.out (p := ⟨g7, 4, none⟩) (Ne.symm N12.out) _); replace H12 := Aside0.mk h12_; replace F := Aside0.mk hF_; clear hF_ hw h12_; obtain ⟨tc0, tc1, tc2, tc3, tc4⟩ := t5_cells F.out.h7; obtain ⟨x0, x1, x2, x3, x4, x5⟩ := F.out.part 0 rfl; simp only [toR, Nat.zero_mul, Nat.zero_add, Nat.one_mul, Nat.reduceAdd] at x0 x1 x2 x3 x4 x5; obtain ⟨z0, z1, z2, z3, z4, z5⟩ := p6_cells H12.out))
                        go_roundg 1
                        case measure => have := hk.out; omega
                        case rel => exact ⟨1, 1, (V p.fr p.to_), by go_num, ⟨by omega, by omega⟩, ⟨(congrArg (turnsV V s ([p].drop 1) ((1 : Nat) : Int)) hst).symm.trans ht.out⟩, F⟩
                      · have cSb : decide ((0 : Int) ≤ p.star) = true := decide_eq_true (by omega)
                        have N12 := Aside0.mk (Nat.ne_of_lt (blk_lt F.out.h7))
                        obtain ⟨tc0, tc1, tc2, tc3, tc4⟩ := t5_cells F.out.h7
                        obtain ⟨x0, x1, x2, x3, x4, x5⟩ := F.out.part 0 rfl
                        simp only [toR, Nat.zero_mul, Nat.zero_add, Nat.one_mul, Nat.reduceAdd] at x0 x1 x2 x3 x4 x5
                        rw [hm] at x3
                        go_wp2_with (first | ((with_reducible refine gate_store (t := 5) (p := 150) (v := .tmp 149) rfl ?_); have hb_ := below_alloc (Below.refl wr.heap.size wr) (.cells #[.int .i64 (p.at_ : Int), .int .i64 (p.en : Int), .int .i64 p.star, .int .i64 (m : Int), .int .i64 (p.fr : Int), .int .i64 (p.to_ : Int)] 66); have h12_ := blk_new wr (.cells #[.int .i64 (p.at_ : Int), .int .i64 (p.en : Int), .int .i64 p.star, .int .i64 (m : Int), .int .i64 (p.fr : Int), .int .i64 (p.to_ : Int)] 66); generalize wr.alloc (.cells #[.int .i64 (p.at_ : Int), .int .i64 (p.en : Int), .int .i64 p.star, .int .i64 (m : Int), .int .i64 (p.fr : Int), .int .i64 (p.to_ : Int)] 66) = wx at hb_ h12_ ⊢; (try clear tc0 tc1 tc2 tc3 tc4); (try clear x0 x1 x2 x3 x4 x5); (try clear y0 y1 y2 y3 y4 y5); replace F := Aside0.mk (F.out.on hb_); obtain ⟨tc0, tc1, tc2, tc3, tc4⟩ := t5_cells F.out.h7; obtain ⟨x0, x1, x2, x3, x4, x5⟩ := F.out.part 0 rfl; simp only [toR, Nat.zero_mul, Nat.zero_add, Nat.one_mul, Nat.reduceAdd] at x0 x1 x2 x3 x4 x5; obtain ⟨r0, r1, r2, r3, r4, _⟩ := froz F.out.h7; refine store_event (w1 := ?wwL6wm) ?hgL6wm rfl rfl ?hrL6wm ?_; (case hgL6wm => rfl); (case hrL6wm => go_simp; rfl); intro wm hw; clear r0 r1 r2 r3 r4; (try clear tc0 tc1 tc2 tc3 tc4); (try clear x0 x1 x2 x3 x4 x5); (try clear y0 y1 y2 y3 y4 y5); have hF_ : K w wm g2 g7 gp pc [toR p] kd (V p.at_ p.en) (V p.at_ p.en) 1 sh := (by rw [hw]; exact F.out.set 3 (.int .u8 1) rfl); have h13_ : wm.heap[wr.heap.size]? = some (.cells (P6 p.at_ p.en p.star (m : Int) p.fr p.to_) 66 (0, 0)) := (by rw [hw]; exact blk_far h12_ (p := ⟨g7, 3, none⟩) (Ne.symm N12.out) _); have H12 := Aside0.mk h13_; replace F := Aside0.mk hF_; clear hF_ hw h12_ h13_ hb_; obtain ⟨tc0, tc1, tc2, tc3, tc4⟩ := t5_cells F.out.h7; obtain ⟨x0, x1, x2, x3, x4, x5⟩ := F.out.part 0 rfl; simp only [toR, Nat.zero_mul, Nat.zero_add, Nat.one_mul, Nat.reduceAdd] at x0 x1 x2 x3 x4 x5; obtain ⟨z0, z1, z2, z3, z4, z5⟩ := p6_cells H12.out) | (go_at_call 31; (with_reducible refine (vivariumref04_worth.calls kw (s.extract p.fr p.to_) (V p.fr p.to_) _ (HV.out _ _ GP.out.o3 GP.out.o4)).mono ?_); rintro en_ wn ⟨rfl, nd, rfl⟩; (try clear tc0 tc1 tc2 tc3 tc4); (try clear x0 x1 x2 x3 x4 x5); (try clear y0 y1 y2 y3 y4 y5); clear z0 z1 z2 z3 z4 z5; replace H12 := Aside0.mk (blk_drewN H12.out nd); replace F := Aside0.mk (F.out.drewN nd); generalize World.drewN _ nd = wn at F H12 ⊢; obtain ⟨tc0, tc1, tc2, tc3, tc4⟩ := t5_cells F.out.h7; obtain ⟨x0, x1, x2, x3, x4, x5⟩ := F.out.part 0 rfl; simp only [toR, Nat.zero_mul, Nat.zero_add, Nat.one_mul, Nat.reduceAdd] at x0 x1 x2 x3 x4 x5; obtain ⟨z0, z1, z2, z3, z4, z5⟩ := p6_cells H12.out) | ((with_reducible refine gate_store (t := 3) (p := 161) (v := .tmp 160) rfl ?_); obtain ⟨r0, r1, r2, r3, r4, _⟩ := froz F.out.h7; refine store_event (w1 := ?wwL6wo) ?hgL6wo rfl rfl ?hrL6wo ?_; (case hgL6wo => rfl); (case hrL6wo => go_simp; rfl); intro wo hw; clear r0 r1 r2 r3 r4; (try clear tc0 tc1 tc2 tc3 tc4); (try clear x0 x1 x2 x3 x4 x5); (try clear y0 y1 y2 y3 y4 y5); clear z0 z1 z2 z3 z4 z5; have hF_ : K w wo g2 g7 gp pc [toR p] kd (V p.at_ p.en) (V p.at_ p.en) 1 (V p.fr p.to_) := (by rw [hw]; exact F.out.set 4 (.int .i64 (V p.fr p.to_)) rfl); have h12_ : wo.heap[wr.heap.size]? = some (.cells (P6 p.at_ p.en p.star (m : Int) p.fr p.to_) 66 (0, 0)) := (by rw [hw]; exact blk_far H12.out (p := ⟨g7, 4, none⟩) (Ne.symm N12.out) _); replace H12 := Aside0.mk h12_; replace F := Aside0.mk hF_; clear hF_ hw h12_; obtain ⟨tc0, tc1, tc2, tc3, tc4⟩ := t5_cells F.out.h7; obtain ⟨x0, x1, x2, x3, x4, x5⟩ := F.out.part 0 rfl; simp only [toR, Nat.zero_mul, Nat.zero_add, Nat.one_mul, Nat.reduceAdd] at x0 x1 x2 x3 x4 x5; obtain ⟨z0, z1, z2, z3, z4, z5⟩ := p6_cells H12.out))
                        go_roundg 1
                        case measure => have := hk.out; omega
                        case rel => exact ⟨1, 1, (V p.fr p.to_), by go_num, ⟨by omega, by omega⟩, ⟨(congrArg (turnsV V s ([p].drop 1) ((1 : Nat) : Int)) hst).symm.trans ht.out⟩, F⟩
                · obtain ⟨tc0, tc1, tc2, tc3, tc4⟩ := t5_cells F.out.h7
                  obtain ⟨x0, x1, x2, x3, x4, x5⟩ := F.out.part 0 rfl
                  simp only [toR, Nat.zero_mul, Nat.zero_add, Nat.one_mul, Nat.reduceAdd] at x0 x1 x2 x3 x4 x5
                  go_wp2_with (first | ((with_reducible refine gate_store (t := 23) (p := 2) (v := .tmp 171) rfl ?_); obtain ⟨r0, r1, r2, r3, r4, _⟩ := froz F.out.h2; obtain ⟨s0, s1, s2, s3, s4⟩ := t5_cells F.out.h2; refine store_event (w1 := ?wwwz) ?hgwz rfl rfl ?hrwz ?_; (case hgwz => rfl); (case hrwz => go_simp; rfl); intro wz hw; clear r0 r1 r2 r3 r4 s0 s1 s2 s3 s4; (try clear tc0 tc1 tc2 tc3 tc4); (try clear x0 x1 x2 x3 x4 x5); (try clear y0 y1 y2 y3 y4 y5); have hD := F.out.done (a' := kd) (b' := (V p.at_ p.en)) (c' := (V p.at_ p.en)) (d' := tu) (e' := sh); rw [← hw] at hD; have FD := Aside0.mk hD; clear hD hw F))
                  have e_ : (tu, sh) = turnsV V s [p] 0 (0, 0) := ht.out
                  refine bodyPost_ret (results_ctt rfl _ _ g2 23 (T5 kd (V p.at_ p.en) (V p.at_ p.en) tu sh) (0, 0) _ rfl FD.out.1 Try.underlying23 rfl (by kernel_rfl)) rfl ?_
                  exact ⟨by rw [hR.out, if_neg (show ¬ (V p.at_ p.en) > 65536 by have := C1.out; omega), if_neg C3.out, ← e_]; rfl, FD.out.2⟩
theorem r_1sideW (s : ByteArray) (hs : s.size ≤ 1048576) (kf : Nat) (kd fa : Int) (p : Pt) (hp : Good s p) (hf : vivariumref04_form.f kf s = some (kd, [toR p], fa, 0)) (kw : Nat) (V : Nat → Nat → Int) (hV : ∀ a b, a ≤ b → b ≤ s.size → vivariumref04_worth.f kw (s.extract a b) = some (V a b)) (c1 : (V p.at_ p.en) > 65536) (w : World) :
    Calls Try.prog 17 #[.string s] w fun e w' => e = .returned (.tuple #[.agg (T5 0 0 0 0 0), .int .i64 p.at_, .int .i64 41]) ∧ Below w.heap.size w w' := by
  exact r_1 s hs kf kd fa p hp hf kw V hV 0 0 0 0 true false (fun h0 _ => absurd c1 h0) (fun h0 _ => absurd c1 h0) (fun h0 _ => absurd c1 h0) _ (by rw [if_pos c1]) w
theorem r_1endW (s : ByteArray) (hs : s.size ≤ 1048576) (kf : Nat) (kd fa : Int) (p : Pt) (hp : Good s p) (hf : vivariumref04_form.f kf s = some (kd, [toR p], fa, 0)) (kw : Nat) (V : Nat → Nat → Int) (hV : ∀ a b, a ≤ b → b ≤ s.size → vivariumref04_worth.f kw (s.extract a b) = some (V a b)) (c1 : ¬ (V p.at_ p.en) > 65536) (c3 : 3 ≤ kd ∧ (V p.at_ p.en) = 0) (w : World) :
    Calls Try.prog 17 #[.string s] w fun e w' => e = .returned (.tuple #[.agg (T5 0 0 0 0 0), .int .i64 p.at_, .int .i64 42]) ∧ Below w.heap.size w w' := by
  exact r_1 s hs kf kd fa p hp hf kw V hV 0 0 0 0 true false (fun _ h1 => absurd c3 h1) (fun _ h1 => absurd c3 h1) (fun _ h1 => absurd c3 h1) _ (by rw [if_neg c1, if_pos c3]) w
theorem r_1twist (s : ByteArray) (hs : s.size ≤ 1048576) (kf : Nat) (kd fa : Int) (p : Pt) (hp : Good s p) (hf : vivariumref04_form.f kf s = some (kd, [toR p], fa, 0)) (kw : Nat) (V : Nat → Nat → Int) (hV : ∀ a b, a ≤ b → b ≤ s.size → vivariumref04_worth.f kw (s.extract a b) = some (V a b)) (c1 : ¬ (V p.at_ p.en) > 65536) (c3 : ¬ (3 ≤ kd ∧ (V p.at_ p.en) = 0)) (kt : Nat) (ta : Int) (tb : Bool) (ht : vivariumref04_twist.f kt s kd [toR p] = some (ta, tb)) (hb : tb = true) (w : World) :
    Calls Try.prog 17 #[.string s] w fun e w' => e = .returned (.tuple #[.agg (T5 0 0 0 0 0), .int .i64 ta, .int .i64 44]) ∧ Below w.heap.size w w' := by
  subst hb; exact r_1 s hs kf kd fa p hp hf kw V hV kt 0 ta 0 true false (fun _ _ => ht) (fun _ _ h => by cases h) (fun _ _ h => by cases h) _ (by rw [if_neg c1, if_neg c3, if_pos rfl]) w
theorem r_1shift (s : ByteArray) (hs : s.size ≤ 1048576) (kf : Nat) (kd fa : Int) (p : Pt) (hp : Good s p) (hf : vivariumref04_form.f kf s = some (kd, [toR p], fa, 0)) (kw : Nat) (V : Nat → Nat → Int) (hV : ∀ a b, a ≤ b → b ≤ s.size → vivariumref04_worth.f kw (s.extract a b) = some (V a b)) (c1 : ¬ (V p.at_ p.en) > 65536) (c3 : ¬ (3 ≤ kd ∧ (V p.at_ p.en) = 0)) (kt : Nat) (ta : Int) (tb : Bool) (ht : vivariumref04_twist.f kt s kd [toR p] = some (ta, tb)) (hb : tb = false) (ks : Nat) (sa : Int) (sb : Bool) (hsf : vivariumref04_shift.f ks s kd [toR p] (V p.at_ p.en) (V p.at_ p.en) = some (sa, sb)) (hb2 : sb = true) (w : World) :
    Calls Try.prog 17 #[.string s] w fun e w' => e = .returned (.tuple #[.agg (T5 0 0 0 0 0), .int .i64 sa, .int .i64 43]) ∧ Below w.heap.size w w' := by
  subst hb; subst hb2; exact r_1 s hs kf kd fa p hp hf kw V hV kt ks ta sa false true (fun _ _ => ht) (fun _ _ _ => hsf) (fun _ _ _ h => by cases h) _ (by rw [if_neg c1, if_neg c3, if_neg Bool.false_ne_true, if_pos rfl]) w
theorem r_1ok (s : ByteArray) (hs : s.size ≤ 1048576) (kf : Nat) (kd fa : Int) (p : Pt) (hp : Good s p) (hf : vivariumref04_form.f kf s = some (kd, [toR p], fa, 0)) (kw : Nat) (V : Nat → Nat → Int) (hV : ∀ a b, a ≤ b → b ≤ s.size → vivariumref04_worth.f kw (s.extract a b) = some (V a b)) (c1 : ¬ (V p.at_ p.en) > 65536) (c3 : ¬ (3 ≤ kd ∧ (V p.at_ p.en) = 0)) (kt : Nat) (ta : Int) (tb : Bool) (ht : vivariumref04_twist.f kt s kd [toR p] = some (ta, tb)) (hb : tb = false) (ks : Nat) (sa : Int) (sb : Bool) (hsf : vivariumref04_shift.f ks s kd [toR p] (V p.at_ p.en) (V p.at_ p.en) = some (sa, sb)) (hb2 : sb = false) (hVr : ∀ a b, 0 ≤ V a b ∧ V a b ≤ 1048577) (w : World) :
    Calls Try.prog 17 #[.string s] w fun e w' => e = .returned (.tuple #[.agg (T5 kd (V p.at_ p.en) (V p.at_ p.en) (turnsV V s [p] 0 (0, 0)).1 (turnsV V s [p] 0 (0, 0)).2), .int .i64 0, .int .i64 0]) ∧ Below w.heap.size w w' := by
  subst hb; subst hb2; exact r_1 s hs kf kd fa p hp hf kw V hV kt ks ta sa false false (fun _ _ => ht) (fun _ _ _ => hsf) (fun _ _ _ _ => hVr) _ (by rw [if_neg c1, if_neg c3, if_neg Bool.false_ne_true, if_neg Bool.false_ne_true]) w
end Go.Proofs.Ytmcidodpnhkdfaa.RefWalk
