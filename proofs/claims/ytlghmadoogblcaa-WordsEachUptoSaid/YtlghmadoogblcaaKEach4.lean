/- What the row of this claim leans on, part 4. -/
import Derived.Test.YtlghmadoogblcaaKEach3
section
namespace Go.Proofs.Ytlghmadoogblcaa.CountWalk
open Go Go.RowKit Go.Proofs.YtlghmadoogblcaaW.PrintWords Go.Proofs.YtlghmadoogblcaaW.PrintLast Go.Proofs.YtlghmadoogblcaaW.PrintMore Go.Proofs.Ytlghmadoogblcaa.PW Go.Proofs.Ytlghmadoogblcaa.Book Go.Proofs.Ytlghmadoogblcaa.Lent Go.Proofs.Ytlghmadoogblcaa.Pile Go.Proofs.Ytlghmadoogblcaa.Rows4
set_option linter.unusedVariables false
set_option linter.unusedSimpArgs false
def Q4.word (q : Q4) (i : Nat) (w : Int) : Q4 :=
  ⟨q.a.set i (Go.bits .xor .u64 (q.a.getD i 0) w), q.b.set i (Go.bits .xor .u64 (q.b.getD i 0) (Go.bits .and .u64 (q.a.getD i 0) w)),
   q.c.set i (Go.bits .xor .u64 (q.c.getD i 0) (Go.bits .and .u64 (q.b.getD i 0) (Go.bits .and .u64 (q.a.getD i 0) w))),
   q.d.set i (Go.bits .xor .u64 (q.d.getD i 0) (Go.bits .and .u64 (q.c.getD i 0) (Go.bits .and .u64 (q.b.getD i 0) (Go.bits .and .u64 (q.a.getD i 0) w))))⟩
def Q4.wordsTo (q : Q4) (ws : List Int) : Nat → Q4
  | 0 => q
  | i + 1 => Q4.word (Q4.wordsTo q ws i) i (ws.getD i 0)
def Q4.rowsTo (q : Q4) (l : List S31) : Nat → Q4
  | 0 => q
  | j + 1 => Q4.wordsTo (Q4.rowsTo q l j) (l.getD j z31).f1 (l.getD j z31).f1.length
def zero4 (L : Nat) : Q4 := ⟨List.replicate L 0, List.replicate L 0, List.replicate L 0, List.replicate L 0⟩
theorem cell_lt {w : World} {p : Addr} {v : Value} (h : w.cell? p = some v) : p.block < w.heap.size := by
  rcases Nat.lt_or_ge p.block w.heap.size with hl | hl
  · exact hl
  · unfold World.cell? at h
    rw [Array.getElem?_eq_none hl] at h
    simp at h
theorem at_row {w W : World} {A : Option Addr} {n : Nat} {xs : List S31} (h : Kd.C k31 w A n xs) (hb : Below w.heap.size w W) (i : Int) (h0 : 0 ≤ i) (h1 : i < n) : ∃ ad A1 c1, A = some ad ∧ W.cell? (ad.add (i.toNat * 2)) = some (.int .i64 (rd_T31 xs i).f0) ∧
    W.cell? ⟨(ad.add (i.toNat * 2)).block, (ad.add (i.toNat * 2)).off + 1, none⟩ = some (.slice A1 (rd_T31 xs i).f1.length c1) ∧ (rd_T31 xs i).f1.length ≤ c1 ∧ (Kd.int .u64).C w A1 (rd_T31 xs i).f1.length (rd_T31 xs i).f1 := by
  obtain ⟨ad, A1, c1, e, hc0, hc1, hl, hC⟩ := at_T31 h i h0 h1
  exact ⟨ad, A1, c1, e, (hb.cell (cell_lt hc0)).trans hc0, (hb.cell (p := ⟨(ad.add (i.toNat * 2)).block, (ad.add (i.toNat * 2)).off + 1, none⟩) (cell_lt hc1)).trans hc1, hl, hC⟩
theorem own_word {w : World} {base g n m c : Nat} {xs : List Int} (h : w.ownsRow base 22 1 (.slice (some ⟨g, 0, none⟩) m c) n (nums .u64 xs)) (i : Int) (h0 : 0 ≤ i) (h1 : i < xs.length) : w.cell? ⟨g, i.toNat, none⟩ = some (.int .u64 (xs.getD i.toNat 0)) := by
  have hc := h.cells (g := g) rfl i.toNat (.int .u64 (xs.getD i.toNat 0)) (by rw [nums, List.getElem?_map, List.getElem?_eq_getElem (by omega), List.getD_eq_getElem?_getD, List.getElem?_eq_getElem (by omega)]; rfl)
  have e2 : (⟨g, 0, none⟩ : Addr).add i.toNat = ⟨g, i.toNat, none⟩ := by cases i.toNat <;> simp [Addr.add]
  rwa [e2] at hc
theorem own_frozen {w : World} {base g n m c : Nat} {xs : List Value} (h : w.ownsRow base 22 1 (.slice (some ⟨g, 0, none⟩) m c) n xs) (j : Nat) : w.frozen? ⟨g, j, none⟩ = false := by
  rcases h.2 with ⟨h', _⟩ | ⟨g', cap', cur, h', _, hh, _⟩
  · cases h'
  · have : g = g' := by injection h' with h'; injection h' with h'; injection h' with h'
    subst this
    simp [World.frozen?, hh]
theorem own_some {w : World} {base n m c : Nat} {A : Option Addr} {xs : List Value} (h : w.ownsRow base 22 1 (.slice A m c) n xs) (hm : 0 < m) : ∃ g, A = some ⟨g, 0, none⟩ := by
  obtain ⟨A', c', e⟩ := own_slice h
  injection e with _ e
  subst e
  obtain ⟨g, cp, e, _⟩ := h.form hm
  injection e with e1
  exact ⟨g, e1⟩
theorem own_len {w : World} {base n m c : Nat} {A : Option Addr} {xs : List Value} (h : w.ownsRow base 22 1 (.slice A m c) n xs) : m = n := by
  obtain ⟨A', c', e⟩ := own_slice h
  injection e
set_option maxHeartbeats 8000000 in
set_option maxRecDepth 100000 in
theorem count_rows (k : Nat) (A0 : Option Addr) (c0 : Nat) (l : List S31) (n : Int) (L : Nat) (w : World) (hr0 : Kd.C k31 w A0 l.length l) (hc0 : l.length ≤ c0) (h15 : l.length ≤ 15) (hpos : 0 < l.length) (hfit : words_fits.f k l = some 0)
    (hL : ∀ j : Nat, j < l.length → (l.getD j z31).f1.length = L) (hn : (l.getD 0 z31).f0 = n) (hbl : words_blank.f n = some (n, List.replicate L 0)) (hLb : L ≤ 2000000) :
    Calls Try.prog 33 #[.slice A0 l.length c0] w fun e w' => ∃ v0 v1 v2 v3, e = .returned (.tuple #[.agg (cells4 n v0 v1 v2 v3).toArray, .int .i64 0]) ∧ Rws w.heap.size w' ((Q4.rowsTo (zero4 L) l l.length).rows v0 v1 v2 v3) ∧ Below w.heap.size w w' := by
  have HR := Aside0.mk hr0; have HC0 := Aside0.mk hc0; have HF := Aside0.mk hfit; have HL := Aside0.mk hL; have HN := Aside0.mk hn; have HBL := Aside0.mk hbl
  have hu := Try.underlying31
  have hu4 := Try.underlying54
  clear hr0 hfit hL hn hbl
  have d15 : decide ((l.length : Int) > 15) = false := decide_eq_false (by omega)
  have dp : decide ((l.length : Int) > 0) = true := decide_eq_true (by omega)
  go_enter Try.func33, Try.ntmps33
  go_wp2_with (first
    | ((with_reducible refine gate_dst (N := 2) rfl ?_); refine box_event ?hg2 (N := 2) ?hd2 (cs := #[.int .i64 0, .slice none 0 0, .int .i64 0, .slice none 0 0, .int .i64 0, .slice none 0 0, .int .i64 0, .slice none 0 0]) (t := 54) ?hr2 ?_; (case hd2 => rfl); (case hg2 => rfl); (case hr2 => first | (go_simp; done) | (go_simp; rfl)); intro r gr W1 x1 hb1; have hgr : w.heap.size ≤ r := (by omega); clear gr)
    | ((with_reducible refine gate_dst (N := 4) rfl ?_); refine box_event ?hg4 (N := 4) ?hd4 (cs := #[.int .i64 0, .slice none 0 0, .int .i64 0, .slice none 0 0, .int .i64 0, .slice none 0 0, .int .i64 0, .slice none 0 0]) (t := 54) ?hr4 ?_; (case hd4 => rfl); (case hg4 => rfl); (case hr4 => first | (go_simp; done) | (go_simp; rfl)); intro b gb W2 x2 hb2; have P2 : CS w W2 b r (cells4 0 (.slice none 0 0) (.slice none 0 0) (.slice none 0 0) (.slice none 0 0)) [] := ⟨chain_ hb1 hb2, x2, blk_below x1 hb2, (by have := hb1.size; omega), (by omega), (by have := blk_lt x1; omega), Rws.nil⟩; have P := Aside0.mk P2; clear P2 x1 x2 hb1 hb2 gb)
    | (go_at_call 55; have P1 := P.out; with_reducible refine (words_fits.calls k A0 c0 l 0 _ (Kd.C_below HR.out P1.be) HC0.out HF.out).mono ?_; rintro er_ v1 ⟨rfl, hb⟩; have P2 := P1.on hb; clear hb P P1; have P := Aside0.mk P2; clear P2; obtain ⟨ad, A1, cc, e_, z0, -, -, -⟩ := at_row HR.out P.out.be 0 (by omega) (by omega); subst e_; have z1 : v1.cell? ad = some (.int .i64 n) := (by have h_ := z0; rw [show rd_T31 l 0 = l.getD 0 z31 from rfl, HN.out] at h_; simpa [Addr.add] using h_); clear z0))
  refine wp_loop_rounds 5 ?_
  clear z1
  rw [rounds_succ]
  go_wp2_with (go_at_call 47; have P1 := P.out; with_reducible refine (words_blank.calls n n (List.replicate L 0) _ HBL.out).mono ?_; rintro er_ u0 ⟨t_, rfl, hR, hb⟩; obtain ⟨A_0, c_0, e_, -, -⟩ := Kd.R_reads hR; rw [List.length_replicate] at e_; subst e_; have P2 := P1.told hb hR; clear hb hR P P1; have P := Aside0.mk P2; clear P2; have x_0 := P.out.at_.2 0 _ rfl; have f_0 := blk_frozen P.out.bx 0; have x_1 := P.out.at_.2 1 _ rfl; have f_1 := blk_frozen P.out.bx 1; have x_2 := P.out.at_.2 2 _ rfl; have f_2 := blk_frozen P.out.bx 2; have x_3 := P.out.at_.2 3 _ rfl; have f_3 := blk_frozen P.out.bx 3; have x_4 := P.out.at_.2 4 _ rfl; have f_4 := blk_frozen P.out.bx 4; have x_5 := P.out.at_.2 5 _ rfl; have f_5 := blk_frozen P.out.bx 5; have x_6 := P.out.at_.2 6 _ rfl; have f_6 := blk_frozen P.out.bx 6; have x_7 := P.out.at_.2 7 _ rfl; have f_7 := blk_frozen P.out.bx 7; have q_b := P.out.at_.1)
  have P2 : CS w _ b r [.int .i64 n, .slice A_0 L c_0, .int .i64 0, .slice none 0 0, .int .i64 0, .slice none 0 0, .int .i64 0, .slice none 0 0] [(.slice A_0 L c_0, List.replicate L 0)] := P.out.put 0 (.int .i64 n) (.slice A_0 L c_0) (by simp [cells4])
  clear x_0 f_0 x_1 f_1 x_2 f_2 x_3 f_3 x_4 f_4 x_5 f_5 x_6 f_6 x_7 f_7 q_b
  clear P
  have P := Aside0.mk P2
  clear P2
  generalize (World.setCell _ _ _).setCell _ _ = w0 at P ⊢
  rw [rounds_succ]
  go_wp2_with (go_at_call 47; have P1 := P.out; with_reducible refine (words_blank.calls n n (List.replicate L 0) _ HBL.out).mono ?_; rintro er_ u1 ⟨t_, rfl, hR, hb⟩; obtain ⟨A_1, c_1, e_, -, -⟩ := Kd.R_reads hR; rw [List.length_replicate] at e_; subst e_; have P2 := P1.told hb hR; clear hb hR P P1; have P := Aside0.mk P2; clear P2; have x_0 := P.out.at_.2 0 _ rfl; have f_0 := blk_frozen P.out.bx 0; have x_1 := P.out.at_.2 1 _ rfl; have f_1 := blk_frozen P.out.bx 1; have x_2 := P.out.at_.2 2 _ rfl; have f_2 := blk_frozen P.out.bx 2; have x_3 := P.out.at_.2 3 _ rfl; have f_3 := blk_frozen P.out.bx 3; have x_4 := P.out.at_.2 4 _ rfl; have f_4 := blk_frozen P.out.bx 4; have x_5 := P.out.at_.2 5 _ rfl; have f_5 := blk_frozen P.out.bx 5; have x_6 := P.out.at_.2 6 _ rfl; have f_6 := blk_frozen P.out.bx 6; have x_7 := P.out.at_.2 7 _ rfl; have f_7 := blk_frozen P.out.bx 7; have q_b := P.out.at_.1)
  have P2 : CS w _ b r [.int .i64 n, .slice A_0 L c_0, .int .i64 n, .slice A_1 L c_1, .int .i64 0, .slice none 0 0, .int .i64 0, .slice none 0 0] [(.slice A_0 L c_0, List.replicate L 0), (.slice A_1 L c_1, List.replicate L 0)] := P.out.put 2 (.int .i64 n) (.slice A_1 L c_1) (by simp [cells4])
  clear x_0 f_0 x_1 f_1 x_2 f_2 x_3 f_3 x_4 f_4 x_5 f_5 x_6 f_6 x_7 f_7 q_b
  clear P
  have P := Aside0.mk P2
  clear P2
  generalize (World.setCell _ _ _).setCell _ _ = w1 at P ⊢
  rw [rounds_succ]
  go_wp2_with (go_at_call 47; have P1 := P.out; with_reducible refine (words_blank.calls n n (List.replicate L 0) _ HBL.out).mono ?_; rintro er_ u2 ⟨t_, rfl, hR, hb⟩; obtain ⟨A_2, c_2, e_, -, -⟩ := Kd.R_reads hR; rw [List.length_replicate] at e_; subst e_; have P2 := P1.told hb hR; clear hb hR P P1; have P := Aside0.mk P2; clear P2; have x_0 := P.out.at_.2 0 _ rfl; have f_0 := blk_frozen P.out.bx 0; have x_1 := P.out.at_.2 1 _ rfl; have f_1 := blk_frozen P.out.bx 1; have x_2 := P.out.at_.2 2 _ rfl; have f_2 := blk_frozen P.out.bx 2; have x_3 := P.out.at_.2 3 _ rfl; have f_3 := blk_frozen P.out.bx 3; have x_4 := P.out.at_.2 4 _ rfl; have f_4 := blk_frozen P.out.bx 4; have x_5 := P.out.at_.2 5 _ rfl; have f_5 := blk_frozen P.out.bx 5; have x_6 := P.out.at_.2 6 _ rfl; have f_6 := blk_frozen P.out.bx 6; have x_7 := P.out.at_.2 7 _ rfl; have f_7 := blk_frozen P.out.bx 7; have q_b := P.out.at_.1)
  have P2 : CS w _ b r [.int .i64 n, .slice A_0 L c_0, .int .i64 n, .slice A_1 L c_1, .int .i64 n, .slice A_2 L c_2, .int .i64 0, .slice none 0 0] [(.slice A_0 L c_0, List.replicate L 0), (.slice A_1 L c_1, List.replicate L 0), (.slice A_2 L c_2, List.replicate L 0)] := P.out.put 4 (.int .i64 n) (.slice A_2 L c_2) (by simp [cells4])
  clear x_0 f_0 x_1 f_1 x_2 f_2 x_3 f_3 x_4 f_4 x_5 f_5 x_6 f_6 x_7 f_7 q_b
  clear P
  have P := Aside0.mk P2
  clear P2
  generalize (World.setCell _ _ _).setCell _ _ = w2 at P ⊢
  rw [rounds_succ]
  go_wp2_with (go_at_call 47; have P1 := P.out; with_reducible refine (words_blank.calls n n (List.replicate L 0) _ HBL.out).mono ?_; rintro er_ u3 ⟨t_, rfl, hR, hb⟩; obtain ⟨A_3, c_3, e_, -, -⟩ := Kd.R_reads hR; rw [List.length_replicate] at e_; subst e_; have P2 := P1.told hb hR; clear hb hR P P1; have P := Aside0.mk P2; clear P2; have x_0 := P.out.at_.2 0 _ rfl; have f_0 := blk_frozen P.out.bx 0; have x_1 := P.out.at_.2 1 _ rfl; have f_1 := blk_frozen P.out.bx 1; have x_2 := P.out.at_.2 2 _ rfl; have f_2 := blk_frozen P.out.bx 2; have x_3 := P.out.at_.2 3 _ rfl; have f_3 := blk_frozen P.out.bx 3; have x_4 := P.out.at_.2 4 _ rfl; have f_4 := blk_frozen P.out.bx 4; have x_5 := P.out.at_.2 5 _ rfl; have f_5 := blk_frozen P.out.bx 5; have x_6 := P.out.at_.2 6 _ rfl; have f_6 := blk_frozen P.out.bx 6; have x_7 := P.out.at_.2 7 _ rfl; have f_7 := blk_frozen P.out.bx 7; have q_b := P.out.at_.1)
  have P2 : CS w _ b r [.int .i64 n, .slice A_0 L c_0, .int .i64 n, .slice A_1 L c_1, .int .i64 n, .slice A_2 L c_2, .int .i64 n, .slice A_3 L c_3] [(.slice A_0 L c_0, List.replicate L 0), (.slice A_1 L c_1, List.replicate L 0), (.slice A_2 L c_2, List.replicate L 0), (.slice A_3 L c_3, List.replicate L 0)] := P.out.put 6 (.int .i64 n) (.slice A_3 L c_3) (by simp [cells4])
  clear x_0 f_0 x_1 f_1 x_2 f_2 x_3 f_3 x_4 f_4 x_5 f_5 x_6 f_6 x_7 f_7 q_b
  clear P
  have P := Aside0.mk P2
  clear P2
  generalize (World.setCell _ _ _).setCell _ _ = w3 at P ⊢
  rw [rounds_succ]
  go_wp2
  go_loopg [40] l.length (fun q_ s40 wr => ∃ j : Int, s40 = .int .i64 j ∧ Aside0 (0 ≤ j ∧ j ≤ l.length ∧ (q_ : Int) = l.length - j) ∧ Aside0 (CS w wr b r [.int .i64 n, .slice A_0 L c_0, .int .i64 n, .slice A_1 L c_1, .int .i64 n, .slice A_2 L c_2, .int .i64 n, .slice A_3 L c_3] ((Q4.rowsTo (zero4 L) l j.toNat).rows (.slice A_0 L c_0) (.slice A_1 L c_1) (.slice A_2 L c_2) (.slice A_3 L c_3))))
  case atStart => exact ⟨0, rfl, ⟨by omega, by omega, by omega⟩, P⟩
  case round =>
    clear P
    obtain ⟨j, rfl, HJ, P⟩ := hrel
    by_cases qj : j < l.length
    · have pj : 0 ≤ j := HJ.out.1
      obtain ⟨ad', Aj, cj, e_, y0_, y1_, hle, hCj⟩ := at_row HR.out P.out.be j pj qj
      cases e_
      have hlen : (rd_T31 l j).f1.length = L := HL.out j.toNat (by omega)
      rw [hlen] at y1_ hle
      obtain ⟨Nj, hNj⟩ : ∃ q, (rd_T31 l j).f0 = q := ⟨_, rfl⟩
      rw [hNj] at y0_
      obtain ⟨ws, hws⟩ : ∃ q, (rd_T31 l j).f1 = q := ⟨_, rfl⟩
      rw [hws] at hCj hlen
      have HWS := Aside0.mk hws
      have HLN := Aside0.mk hlen
      have HCJ := Aside0.mk hCj
      clear hNj hws hlen hCj
      go_wp2
      have P2 := P.out.on (below_alloc (Below.refl _ wr) (.cells #[.int .i64 Nj, .slice Aj L cj] 31))
      clear P y0_ y1_
      have P := Aside0.mk P2
      clear P2
      generalize wr.alloc _ = wa at P ⊢
      go_loopg [47] L (fun q2_ s47 wx => ∃ y : Int, s47 = .int .i64 y ∧ Aside0 (0 ≤ y ∧ y ≤ L ∧ (q2_ : Int) = L - y) ∧ Aside0 (CS w wx b r [.int .i64 n, .slice A_0 L c_0, .int .i64 n, .slice A_1 L c_1, .int .i64 n, .slice A_2 L c_2, .int .i64 n, .slice A_3 L c_3] ((Q4.wordsTo (Q4.rowsTo (zero4 L) l j.toNat) ws y.toNat).rows (.slice A_0 L c_0) (.slice A_1 L c_1) (.slice A_2 L c_2) (.slice A_3 L c_3))))
      case atStart => exact ⟨0, rfl, ⟨by omega, by omega, by omega⟩, P⟩
      case round =>
        clear P
        obtain ⟨y, rfl, HY, P⟩ := hrel
        by_cases qy : y < L
        · have p : 0 ≤ y := HY.out.1
          obtain ⟨ad2, e_, hw0⟩ := Kd.at_int HCJ.out y p (by have := HLN.out; omega)
          subst e_
          have hw_ : wr.cell? (ad2.add y.toNat) = some (.int .u64 (rd ws y)) := (P.out.be.cell (cell_lt hw0)).trans hw0
          clear hw0
          obtain ⟨wd, hwd⟩ : ∃ q, rd ws y = q := ⟨_, rfl⟩
          rw [hwd] at hw_
          have HWD := Aside0.mk hwd
          clear hwd
          obtain ⟨⟨qa, qb, qc, qd⟩, hq⟩ : ∃ q : Q4, Q4.wordsTo (Q4.rowsTo (zero4 L) l j.toNat) ws y.toNat = q := ⟨_, rfl⟩
          have P2 := P.out
          rw [hq] at P2
          have HQ := Aside0.mk hq
          clear hq P
          have P := Aside0.mk P2
          clear P2
          obtain ⟨g0, e_⟩ := own_some (P.out.rows.own 0 _ rfl) (by omega)
          subst e_
          have HQ0 := Aside0.mk (show L = qa.length from own_len (P.out.rows.own 0 _ rfl))
          obtain ⟨x0, hx0⟩ : ∃ z, qa.getD y.toNat 0 = z := ⟨_, rfl⟩
          have HX0 := Aside0.mk hx0
          clear hx0
          obtain ⟨g1, e_⟩ := own_some (P.out.rows.own 1 _ rfl) (by omega)
          subst e_
          have HQ1 := Aside0.mk (show L = qb.length from own_len (P.out.rows.own 1 _ rfl))
          obtain ⟨x1, hx1⟩ : ∃ z, qb.getD y.toNat 0 = z := ⟨_, rfl⟩
          have HX1 := Aside0.mk hx1
          clear hx1
          obtain ⟨g2, e_⟩ := own_some (P.out.rows.own 2 _ rfl) (by omega)
          subst e_
          have HQ2 := Aside0.mk (show L = qc.length from own_len (P.out.rows.own 2 _ rfl))
          obtain ⟨x2, hx2⟩ : ∃ z, qc.getD y.toNat 0 = z := ⟨_, rfl⟩
          have HX2 := Aside0.mk hx2
          clear hx2
          obtain ⟨g3, e_⟩ := own_some (P.out.rows.own 3 _ rfl) (by omega)
          subst e_
          have HQ3 := Aside0.mk (show L = qd.length from own_len (P.out.rows.own 3 _ rfl))
          obtain ⟨x3, hx3⟩ : ∃ z, qd.getD y.toNat 0 = z := ⟨_, rfl⟩
          have HX3 := Aside0.mk hx3
          clear hx3
          go_wp2
          refine wp_loop_rounds 5 ?_
          rw [rounds_succ]
          go_wp2
          have b_ : wr.cell? ⟨b, 1, none⟩ = some (.slice (some ⟨g0, 0, none⟩) L c_0) := P.out.at_.2 1 _ rfl
          have o_ : wr.ownsRow w.heap.size 22 1 (.slice (some ⟨g0, 0, none⟩) L c_0) qa.length (nums .u64 qa) := P.out.rows.own 0 _ rfl
          have w_ : wr.cell? ⟨g0, y.toNat, none⟩ = some (.int .u64 x0) := (own_word o_ y p (by have := HQ0.out; omega)).trans (by rw [HX0.out])
          clear o_
          refine start_ (n := 20) (S := fun w' => w'.cell? ⟨b, 1, none⟩ = some (.slice (some ⟨g0, 0, none⟩) L c_0) ∧ w'.cell? ⟨g0, y.toNat, none⟩ = some (.int .u64 x0)) (ds := [18]) #[false, false, false, false, false, false, false, false, false, false, false, false, false, false, false, false, false, false, false, false] (by kernel_rfl) rfl rfl ⟨b_, w_⟩ (fun hHeld => ?_)
          have P2 := P.out.on (below_drew (Below.refl wr.heap.size wr))
          clear P b_ w_
          have P := Aside0.mk P2
          clear P2
          generalize wr.drew = z0 at P hHeld ⊢
          refine pure_ (i := 0) (N := (some 56)) (v := ?_) (a' := ?_) #[true, false, false, false, false, false, false, false, false, false, false, false, false, false, false, false, false, false, false, false] rfl rfl (by kernel_rfl) (fun _ _ _ h => h) (Or.inl ⟨by rfl, ?_⟩) ?_ ?_
          rotate_left
          · intro w'
            go_simp
            with_reducible rfl
          rotate_left
          · simp only [Act.put, List.setIfInBounds_toArray, List.set_cons_zero, List.set_cons_succ, i64_w, i32_w]
            rfl
          refine pure_ (i := 1) (N := (some 57)) (v := ?_) (a' := ?_) #[true, true, false, false, false, false, false, false, false, false, false, false, false, false, false, false, false, false, false, false] rfl rfl (by kernel_rfl) (fun _ _ _ h => h) (Or.inl ⟨by rfl, ?_⟩) ?_ ?_
          rotate_left
          · intro w'
            go_simp
            with_reducible rfl
          rotate_left
          · simp only [Act.put, List.setIfInBounds_toArray, List.set_cons_zero, List.set_cons_succ, i64_w, i32_w]
            rfl
          refine pure_ (i := 2) (N := (some 58)) (v := ?_) (a' := ?_) #[true, true, true, false, false, false, false, false, false, false, false, false, false, false, false, false, false, false, false, false] rfl rfl (by kernel_rfl) (fun _ _ _ h => h) (Or.inl ⟨by rfl, ?_⟩) ?_ ?_
          rotate_left
          · intro w'
            go_simp
            with_reducible rfl
          rotate_left
          · simp only [Act.put, List.setIfInBounds_toArray, List.set_cons_zero, List.set_cons_succ, i64_w, i32_w]
            rfl
          refine take_ (i := 3) (N := (some 59)) (v := ?_) (a' := ?_) #[true, true, true, true, false, false, false, false, false, false, false, false, false, false, false, false, false, false, false, false] rfl rfl (by kernel_rfl) (fun _ _ _ h => h) (Or.inl ⟨by rfl, ?_⟩) hHeld ?_ ?_
          rotate_left
          · rintro w' ⟨s0, s1⟩
            go_simp
            with_reducible rfl
          rotate_left
          · simp only [Act.put, List.setIfInBounds_toArray, List.set_cons_zero, List.set_cons_succ, i64_w, i32_w]
            rfl
          refine pure_ (i := 4) (N := (some 60)) (v := ?_) (a' := ?_) #[true, true, true, true, true, false, false, false, false, false, false, false, false, false, false, false, false, false, false, false] rfl rfl (by kernel_rfl) (fun _ _ _ h => h) (Or.inl ⟨by rfl, ?_⟩) ?_ ?_
          rotate_left
          · intro w'
            go_simp
            with_reducible rfl
          rotate_left
          · simp only [Act.put, List.setIfInBounds_toArray, List.set_cons_zero, List.set_cons_succ, i64_w, i32_w]
            rfl
          refine pure_ (i := 5) (N := (some 61)) (v := ?_) (a' := ?_) #[true, true, true, true, true, true, false, false, false, false, false, false, false, false, false, false, false, false, false, false] rfl rfl (by kernel_rfl) (fun _ _ _ h => h) (Or.inl ⟨by rfl, ?_⟩) ?_ ?_
          rotate_left
          · intro w'
            go_simp
            with_reducible rfl
          rotate_left
          · simp only [Act.put, List.setIfInBounds_toArray, List.set_cons_zero, List.set_cons_succ, i64_w, i32_w]
            rfl
          refine pure_ (i := 6) (N := (some 62)) (v := ?_) (a' := ?_) #[true, true, true, true, true, true, true, false, false, false, false, false, false, false, false, false, false, false, false, false] rfl rfl (by kernel_rfl) (fun _ _ _ h => h) (Or.inl ⟨by rfl, ?_⟩) ?_ ?_
          rotate_left
          · intro w'
            go_simp
            with_reducible rfl
          rotate_left
          · simp only [Act.put, List.setIfInBounds_toArray, List.set_cons_zero, List.set_cons_succ, i64_w, i32_w]
            rfl
          refine pure_ (i := 7) (N := (some 63)) (v := ?_) (a' := ?_) #[true, true, true, true, true, true, true, true, false, false, false, false, false, false, false, false, false, false, false, false] rfl rfl (by kernel_rfl) (fun _ _ _ h => h) (Or.inl ⟨by rfl, ?_⟩) ?_ ?_
          rotate_left
          · intro w'
            go_simp
            with_reducible rfl
          rotate_left
          · simp only [Act.put, List.setIfInBounds_toArray, List.set_cons_zero, List.set_cons_succ, i64_w, i32_w]
            rfl
          refine take_ (i := 8) (N := (some 64)) (v := ?_) (a' := ?_) #[true, true, true, true, true, true, true, true, true, false, false, false, false, false, false, false, false, false, false, false] rfl rfl (by kernel_rfl) (fun _ _ _ h => h) (Or.inl ⟨by rfl, ?_⟩) hHeld ?_ ?_
          rotate_left
          · rintro w' ⟨s0, s1⟩
            go_simp
            with_reducible rfl
          rotate_left
          · simp only [Act.put, List.setIfInBounds_toArray, List.set_cons_zero, List.set_cons_succ, i64_w, i32_w]
            rfl
          refine pure_ (i := 9) (N := (some 65)) (v := ?_) (a' := ?_) #[true, true, true, true, true, true, true, true, true, true, false, false, false, false, false, false, false, false, false, false] rfl rfl (by kernel_rfl) (fun _ _ _ h => h) (Or.inl ⟨by rfl, ?_⟩) ?_ ?_
          rotate_left
          · intro w'
            go_simp
            with_reducible rfl
          rotate_left
          · simp only [Act.put, List.setIfInBounds_toArray, List.set_cons_zero, List.set_cons_succ, i64_w, i32_w]
            rfl
          refine pure_ (i := 10) (N := (some 66)) (v := ?_) (a' := ?_) #[true, true, true, true, true, true, true, true, true, true, true, false, false, false, false, false, false, false, false, false] rfl rfl (by kernel_rfl) (fun _ _ _ h => h) (Or.inl ⟨by rfl, ?_⟩) ?_ ?_
          rotate_left
          · intro w'
            go_simp
            with_reducible rfl
          rotate_left
          · simp only [Act.put, List.setIfInBounds_toArray, List.set_cons_zero, List.set_cons_succ, i64_w, i32_w]
            rfl
          refine take_ (i := 11) (N := (some 67)) (v := ?_) (a' := ?_) #[true, true, true, true, true, true, true, true, true, true, true, true, false, false, false, false, false, false, false, false] rfl rfl (by kernel_rfl) (fun _ _ _ h => h) (Or.inl ⟨by rfl, ?_⟩) hHeld ?_ ?_
          rotate_left
          · rintro w' ⟨s0, s1⟩
            go_simp
            with_reducible rfl
          rotate_left
          · simp only [Act.put, List.setIfInBounds_toArray, List.set_cons_zero, List.set_cons_succ, i64_w, i32_w]
            rfl
          refine pure_ (i := 12) (N := (some 68)) (v := ?_) (a' := ?_) #[true, true, true, true, true, true, true, true, true, true, true, true, true, false, false, false, false, false, false, false] rfl rfl (by kernel_rfl) (fun _ _ _ h => h) (Or.inl ⟨by rfl, ?_⟩) ?_ ?_
          rotate_left
          · intro w'
            go_simp
            with_reducible rfl
          rotate_left
          · simp only [Act.put, List.setIfInBounds_toArray, List.set_cons_zero, List.set_cons_succ, i64_w, i32_w]
            rfl
          refine one_ (i := 13) (N := (some 69)) #[true, true, true, true, true, true, true, true, true, true, true, true, true, true, false, false, false, false, false, false] rfl rfl (by kernel_rfl) (by decide) (fun K hK => ?_)
          refine goes_ Try.func14 (by kernel_rfl) rfl #[.int .u64 x0, .int .u64 wd] (by rfl) rfl rfl (by (try simp only [List.map_toArray, List.map_cons, List.map_nil]); first | done | rfl) ?_
          with_reducible refine (words_Half.calls x0 wd (Go.bits .xor .u64 x0 wd) (Go.bits .and .u64 x0 wd) _ rfl).mono ?_
          rintro er_ z0' ⟨rfl, ⟨nd_, rfl⟩⟩
          refine ⟨_, rfl, ?_⟩
          have P2 := P.out.on (pw_below_drewN (Below.refl z0.heap.size z0) nd_)
          refine hK.out _ _ ⟨P2.at_.2 1 _ rfl, (own_word (show (z0.drewN nd_).ownsRow w.heap.size 22 1 (.slice (some ⟨g0, 0, none⟩) L c_0) qa.length (nums .u64 qa) from P2.rows.own 0 _ rfl) y p (by have := HQ0.out; omega)).trans (by rw [HX0.out])⟩ (fun hHeld => ?_)
          clear hK K P
          have P := Aside0.mk P2
          clear P2
          generalize z0.drewN nd_ = y0 at P hHeld ⊢
          obtain ⟨x_k0, hk0⟩ : ∃ q, Go.bits .xor .u64 x0 wd = q := ⟨_, rfl⟩
          obtain ⟨k1, hc0⟩ : ∃ q, Go.bits .and .u64 x0 wd = q := ⟨_, rfl⟩
          rw [hk0, hc0]
          have HK0 := Aside0.mk hk0
          have HC0' := Aside0.mk hc0
          clear hk0 hc0
          refine pure_ (i := 14) (N := (some 55)) (v := ?_) (a' := ?_) #[true, true, true, true, true, true, true, true, true, true, true, true, true, true, true, false, false, false, false, false] rfl rfl (by kernel_rfl) (fun _ _ _ h => h) (Or.inl ⟨by rfl, ?_⟩) ?_ ?_
          rotate_left
          · intro w'
            go_simp
            with_reducible rfl
          rotate_left
          · simp only [Act.put, List.setIfInBounds_toArray, List.set_cons_zero, List.set_cons_succ, i64_w, i32_w]
            rfl
          refine pure_ (i := 15) (N := (some 70)) (v := ?_) (a' := ?_) #[true, true, true, true, true, true, true, true, true, true, true, true, true, true, true, true, false, false, false, false] rfl rfl (by kernel_rfl) (fun _ _ _ h => h) (Or.inl ⟨by rfl, ?_⟩) ?_ ?_
          rotate_left
          · intro w'
            go_simp
            with_reducible rfl
          rotate_left
          · simp only [Act.put, List.setIfInBounds_toArray, List.set_cons_zero, List.set_cons_succ, i64_w, i32_w]
            rfl
          refine pure_ (i := 16) (N := (some 71)) (v := ?_) (a' := ?_) #[true, true, true, true, true, true, true, true, true, true, true, true, true, true, true, true, true, false, false, false] rfl rfl (by kernel_rfl) (fun _ _ _ h => h) (Or.inl ⟨by rfl, ?_⟩) ?_ ?_
          rotate_left
          · intro w'
            go_simp
            with_reducible rfl
          rotate_left
          · simp only [Act.put, List.setIfInBounds_toArray, List.set_cons_zero, List.set_cons_succ, i64_w, i32_w]
            rfl
          refine pure_ (i := 17) (N := (some 72)) (v := ?_) (a' := ?_) #[true, true, true, true, true, true, true, true, true, true, true, true, true, true, true, true, true, true, false, false] rfl rfl (by kernel_rfl) (fun _ _ _ h => h) (Or.inl ⟨by rfl, ?_⟩) ?_ ?_
          rotate_left
          · intro w'
            go_simp
            with_reducible rfl
          rotate_left
          · simp only [Act.put, List.setIfInBounds_toArray, List.set_cons_zero, List.set_cons_succ, i64_w, i32_w]
            rfl
          refine last_ (i := 18) (N := none) #[true, true, true, true, true, true, true, true, true, true, true, true, true, true, true, true, true, true, true, false] rfl rfl (by kernel_rfl) (by decide) (fun K hK => ?_)
          have c_ := hHeld.2
          have f_ := own_frozen (P.out.rows.own 0 _ rfl) y.toNat
          refine skip_ (w1 := y0.setCell ⟨g0, y.toNat, none⟩ (.int .u64 x_k0)) (by rfl) rfl ?_ ?_
          · first | (go_simp; done) | (go_simp; rfl)
          refine hK.out _ _ ?_
          clear hK K hHeld c_ f_
          refine pure_ (i := 19) (N := (some 11)) (v := ?_) (a' := ?_) #[true, true, true, true, true, true, true, true, true, true, true, true, true, true, true, true, true, true, true, true] rfl rfl (by kernel_rfl) (fun _ _ _ h => h) (Or.inl ⟨by rfl, ?_⟩) ?_ ?_
          rotate_left
          · intro w'
            go_simp
            with_reducible rfl
          rotate_left
          · simp only [Act.put, List.setIfInBounds_toArray, List.set_cons_zero, List.set_cons_succ, i64_w, i32_w]
            rfl
          refine done_ (by kernel_rfl) ?_
          have P2 : CS w _ b r [.int .i64 n, .slice (some ⟨g0, 0, none⟩) L c_0, .int .i64 n, .slice (some ⟨g1, 0, none⟩) L c_1, .int .i64 n, .slice (some ⟨g2, 0, none⟩) L c_2, .int .i64 n, .slice (some ⟨g3, 0, none⟩) L c_3] [(.slice (some ⟨g0, 0, none⟩) L c_0, qa.set y.toNat x_k0), (.slice (some ⟨g1, 0, none⟩) L c_1, qb), (.slice (some ⟨g2, 0, none⟩) L c_2, qc), (.slice (some ⟨g3, 0, none⟩) L c_3, qd)] := P.out.word (j := 0) rfl (by have := HQ0.out; omega) y.toNat x_k0
          clear P
          have P := Aside0.mk P2
          clear P2
          generalize World.setCell _ _ _ = s0 at P ⊢
          go_wp2
          rw [rounds_succ]
          go_wp2
          have b_ : s0.cell? ⟨b, 3, none⟩ = some (.slice (some ⟨g1, 0, none⟩) L c_1) := P.out.at_.2 3 _ rfl
          have o_ : s0.ownsRow w.heap.size 22 1 (.slice (some ⟨g1, 0, none⟩) L c_1) qb.length (nums .u64 qb) := P.out.rows.own 1 _ rfl
          have w_ : s0.cell? ⟨g1, y.toNat, none⟩ = some (.int .u64 x1) := (own_word o_ y p (by have := HQ1.out; omega)).trans (by rw [HX1.out])
          clear o_
          refine start_ (n := 20) (S := fun w' => w'.cell? ⟨b, 3, none⟩ = some (.slice (some ⟨g1, 0, none⟩) L c_1) ∧ w'.cell? ⟨g1, y.toNat, none⟩ = some (.int .u64 x1)) (ds := [18]) #[false, false, false, false, false, false, false, false, false, false, false, false, false, false, false, false, false, false, false, false] (by kernel_rfl) rfl rfl ⟨b_, w_⟩ (fun hHeld => ?_)
          have P2 := P.out.on (below_drew (Below.refl s0.heap.size s0))
          clear P b_ w_
          have P := Aside0.mk P2
          clear P2
          generalize s0.drew = z1 at P hHeld ⊢
          refine pure_ (i := 0) (N := (some 56)) (v := ?_) (a' := ?_) #[true, false, false, false, false, false, false, false, false, false, false, false, false, false, false, false, false, false, false, false] rfl rfl (by kernel_rfl) (fun _ _ _ h => h) (Or.inl ⟨by rfl, ?_⟩) ?_ ?_
          rotate_left
          · intro w'
            go_simp
            with_reducible rfl
          rotate_left
          · simp only [Act.put, List.setIfInBounds_toArray, List.set_cons_zero, List.set_cons_succ, i64_w, i32_w]
            rfl
          refine pure_ (i := 1) (N := (some 57)) (v := ?_) (a' := ?_) #[true, true, false, false, false, false, false, false, false, false, false, false, false, false, false, false, false, false, false, false] rfl rfl (by kernel_rfl) (fun _ _ _ h => h) (Or.inl ⟨by rfl, ?_⟩) ?_ ?_
          rotate_left
          · intro w'
            go_simp
            with_reducible rfl
          rotate_left
          · simp only [Act.put, List.setIfInBounds_toArray, List.set_cons_zero, List.set_cons_succ, i64_w, i32_w]
            rfl
          refine pure_ (i := 2) (N := (some 58)) (v := ?_) (a' := ?_) #[true, true, true, false, false, false, false, false, false, false, false, false, false, false, false, false, false, false, false, false] rfl rfl (by kernel_rfl) (fun _ _ _ h => h) (Or.inl ⟨by rfl, ?_⟩) ?_ ?_
          rotate_left
          · intro w'
            go_simp
            with_reducible rfl
          rotate_left
          · simp only [Act.put, List.setIfInBounds_toArray, List.set_cons_zero, List.set_cons_succ, i64_w, i32_w]
            rfl
          refine take_ (i := 3) (N := (some 59)) (v := ?_) (a' := ?_) #[true, true, true, true, false, false, false, false, false, false, false, false, false, false, false, false, false, false, false, false] rfl rfl (by kernel_rfl) (fun _ _ _ h => h) (Or.inl ⟨by rfl, ?_⟩) hHeld ?_ ?_
          rotate_left
          · rintro w' ⟨s0, s1⟩
            go_simp
            with_reducible rfl
          rotate_left
          · simp only [Act.put, List.setIfInBounds_toArray, List.set_cons_zero, List.set_cons_succ, i64_w, i32_w]
            rfl
          refine pure_ (i := 4) (N := (some 60)) (v := ?_) (a' := ?_) #[true, true, true, true, true, false, false, false, false, false, false, false, false, false, false, false, false, false, false, false] rfl rfl (by kernel_rfl) (fun _ _ _ h => h) (Or.inl ⟨by rfl, ?_⟩) ?_ ?_
          rotate_left
          · intro w'
            go_simp
            with_reducible rfl
          rotate_left
          · simp only [Act.put, List.setIfInBounds_toArray, List.set_cons_zero, List.set_cons_succ, i64_w, i32_w]
            rfl
          refine pure_ (i := 5) (N := (some 61)) (v := ?_) (a' := ?_) #[true, true, true, true, true, true, false, false, false, false, false, false, false, false, false, false, false, false, false, false] rfl rfl (by kernel_rfl) (fun _ _ _ h => h) (Or.inl ⟨by rfl, ?_⟩) ?_ ?_
          rotate_left
          · intro w'
            go_simp
            with_reducible rfl
          rotate_left
          · simp only [Act.put, List.setIfInBounds_toArray, List.set_cons_zero, List.set_cons_succ, i64_w, i32_w]
            rfl
          refine pure_ (i := 6) (N := (some 62)) (v := ?_) (a' := ?_) #[true, true, true, true, true, true, true, false, false, false, false, false, false, false, false, false, false, false, false, false] rfl rfl (by kernel_rfl) (fun _ _ _ h => h) (Or.inl ⟨by rfl, ?_⟩) ?_ ?_
          rotate_left
          · intro w'
            go_simp
            with_reducible rfl
          rotate_left
          · simp only [Act.put, List.setIfInBounds_toArray, List.set_cons_zero, List.set_cons_succ, i64_w, i32_w]
            rfl
          refine pure_ (i := 7) (N := (some 63)) (v := ?_) (a' := ?_) #[true, true, true, true, true, true, true, true, false, false, false, false, false, false, false, false, false, false, false, false] rfl rfl (by kernel_rfl) (fun _ _ _ h => h) (Or.inl ⟨by rfl, ?_⟩) ?_ ?_
          rotate_left
          · intro w'
            go_simp
            with_reducible rfl
          rotate_left
          · simp only [Act.put, List.setIfInBounds_toArray, List.set_cons_zero, List.set_cons_succ, i64_w, i32_w]
            rfl
          refine take_ (i := 8) (N := (some 64)) (v := ?_) (a' := ?_) #[true, true, true, true, true, true, true, true, true, false, false, false, false, false, false, false, false, false, false, false] rfl rfl (by kernel_rfl) (fun _ _ _ h => h) (Or.inl ⟨by rfl, ?_⟩) hHeld ?_ ?_
          rotate_left
          · rintro w' ⟨s0, s1⟩
            go_simp
            with_reducible rfl
          rotate_left
          · simp only [Act.put, List.setIfInBounds_toArray, List.set_cons_zero, List.set_cons_succ, i64_w, i32_w]
            rfl
          refine pure_ (i := 9) (N := (some 65)) (v := ?_) (a' := ?_) #[true, true, true, true, true, true, true, true, true, true, false, false, false, false, false, false, false, false, false, false] rfl rfl (by kernel_rfl) (fun _ _ _ h => h) (Or.inl ⟨by rfl, ?_⟩) ?_ ?_
          rotate_left
          · intro w'
            go_simp
            with_reducible rfl
          rotate_left
          · simp only [Act.put, List.setIfInBounds_toArray, List.set_cons_zero, List.set_cons_succ, i64_w, i32_w]
            rfl
          refine pure_ (i := 10) (N := (some 66)) (v := ?_) (a' := ?_) #[true, true, true, true, true, true, true, true, true, true, true, false, false, false, false, false, false, false, false, false] rfl rfl (by kernel_rfl) (fun _ _ _ h => h) (Or.inl ⟨by rfl, ?_⟩) ?_ ?_
          rotate_left
          · intro w'
            go_simp
            with_reducible rfl
          rotate_left
          · simp only [Act.put, List.setIfInBounds_toArray, List.set_cons_zero, List.set_cons_succ, i64_w, i32_w]
            rfl
          refine take_ (i := 11) (N := (some 67)) (v := ?_) (a' := ?_) #[true, true, true, true, true, true, true, true, true, true, true, true, false, false, false, false, false, false, false, false] rfl rfl (by kernel_rfl) (fun _ _ _ h => h) (Or.inl ⟨by rfl, ?_⟩) hHeld ?_ ?_
          rotate_left
          · rintro w' ⟨s0, s1⟩
            go_simp
            with_reducible rfl
          rotate_left
          · simp only [Act.put, List.setIfInBounds_toArray, List.set_cons_zero, List.set_cons_succ, i64_w, i32_w]
            rfl
          refine pure_ (i := 12) (N := (some 68)) (v := ?_) (a' := ?_) #[true, true, true, true, true, true, true, true, true, true, true, true, true, false, false, false, false, false, false, false] rfl rfl (by kernel_rfl) (fun _ _ _ h => h) (Or.inl ⟨by rfl, ?_⟩) ?_ ?_
          rotate_left
          · intro w'
            go_simp
            with_reducible rfl
          rotate_left
          · simp only [Act.put, List.setIfInBounds_toArray, List.set_cons_zero, List.set_cons_succ, i64_w, i32_w]
            rfl
          refine one_ (i := 13) (N := (some 69)) #[true, true, true, true, true, true, true, true, true, true, true, true, true, true, false, false, false, false, false, false] rfl rfl (by kernel_rfl) (by decide) (fun K hK => ?_)
          refine goes_ Try.func14 (by kernel_rfl) rfl #[.int .u64 x1, .int .u64 k1] (by rfl) rfl rfl (by (try simp only [List.map_toArray, List.map_cons, List.map_nil]); first | done | rfl) ?_
          with_reducible refine (words_Half.calls x1 k1 (Go.bits .xor .u64 x1 k1) (Go.bits .and .u64 x1 k1) _ rfl).mono ?_
          rintro er_ z1' ⟨rfl, ⟨nd_, rfl⟩⟩
          refine ⟨_, rfl, ?_⟩
          have P2 := P.out.on (pw_below_drewN (Below.refl z1.heap.size z1) nd_)
          refine hK.out _ _ ⟨P2.at_.2 3 _ rfl, (own_word (show (z1.drewN nd_).ownsRow w.heap.size 22 1 (.slice (some ⟨g1, 0, none⟩) L c_1) qb.length (nums .u64 qb) from P2.rows.own 1 _ rfl) y p (by have := HQ1.out; omega)).trans (by rw [HX1.out])⟩ (fun hHeld => ?_)
          clear hK K P
          have P := Aside0.mk P2
          clear P2
          generalize z1.drewN nd_ = y1 at P hHeld ⊢
          obtain ⟨x_k1, hk1⟩ : ∃ q, Go.bits .xor .u64 x1 k1 = q := ⟨_, rfl⟩
          obtain ⟨k2, hc1⟩ : ∃ q, Go.bits .and .u64 x1 k1 = q := ⟨_, rfl⟩
          rw [hk1, hc1]
          have HK1 := Aside0.mk hk1
          have HC1' := Aside0.mk hc1
          clear hk1 hc1
          refine pure_ (i := 14) (N := (some 55)) (v := ?_) (a' := ?_) #[true, true, true, true, true, true, true, true, true, true, true, true, true, true, true, false, false, false, false, false] rfl rfl (by kernel_rfl) (fun _ _ _ h => h) (Or.inl ⟨by rfl, ?_⟩) ?_ ?_
          rotate_left
          · intro w'
            go_simp
            with_reducible rfl
          rotate_left
          · simp only [Act.put, List.setIfInBounds_toArray, List.set_cons_zero, List.set_cons_succ, i64_w, i32_w]
            rfl
          refine pure_ (i := 15) (N := (some 70)) (v := ?_) (a' := ?_) #[true, true, true, true, true, true, true, true, true, true, true, true, true, true, true, true, false, false, false, false] rfl rfl (by kernel_rfl) (fun _ _ _ h => h) (Or.inl ⟨by rfl, ?_⟩) ?_ ?_
          rotate_left
          · intro w'
            go_simp
            with_reducible rfl
          rotate_left
          · simp only [Act.put, List.setIfInBounds_toArray, List.set_cons_zero, List.set_cons_succ, i64_w, i32_w]
            rfl
          refine pure_ (i := 16) (N := (some 71)) (v := ?_) (a' := ?_) #[true, true, true, true, true, true, true, true, true, true, true, true, true, true, true, true, true, false, false, false] rfl rfl (by kernel_rfl) (fun _ _ _ h => h) (Or.inl ⟨by rfl, ?_⟩) ?_ ?_
          rotate_left
          · intro w'
            go_simp
            with_reducible rfl
          rotate_left
          · simp only [Act.put, List.setIfInBounds_toArray, List.set_cons_zero, List.set_cons_succ, i64_w, i32_w]
            rfl
          refine pure_ (i := 17) (N := (some 72)) (v := ?_) (a' := ?_) #[true, true, true, true, true, true, true, true, true, true, true, true, true, true, true, true, true, true, false, false] rfl rfl (by kernel_rfl) (fun _ _ _ h => h) (Or.inl ⟨by rfl, ?_⟩) ?_ ?_
          rotate_left
          · intro w'
            go_simp
            with_reducible rfl
          rotate_left
          · simp only [Act.put, List.setIfInBounds_toArray, List.set_cons_zero, List.set_cons_succ, i64_w, i32_w]
            rfl
          refine last_ (i := 18) (N := none) #[true, true, true, true, true, true, true, true, true, true, true, true, true, true, true, true, true, true, true, false] rfl rfl (by kernel_rfl) (by decide) (fun K hK => ?_)
          have c_ := hHeld.2
          have f_ := own_frozen (P.out.rows.own 1 _ rfl) y.toNat
          refine skip_ (w1 := y1.setCell ⟨g1, y.toNat, none⟩ (.int .u64 x_k1)) (by rfl) rfl ?_ ?_
          · first | (go_simp; done) | (go_simp; rfl)
          refine hK.out _ _ ?_
          clear hK K hHeld c_ f_
          refine pure_ (i := 19) (N := (some 11)) (v := ?_) (a' := ?_) #[true, true, true, true, true, true, true, true, true, true, true, true, true, true, true, true, true, true, true, true] rfl rfl (by kernel_rfl) (fun _ _ _ h => h) (Or.inl ⟨by rfl, ?_⟩) ?_ ?_
          rotate_left
          · intro w'
            go_simp
            with_reducible rfl
          rotate_left
          · simp only [Act.put, List.setIfInBounds_toArray, List.set_cons_zero, List.set_cons_succ, i64_w, i32_w]
            rfl
          refine done_ (by kernel_rfl) ?_
          have P2 : CS w _ b r [.int .i64 n, .slice (some ⟨g0, 0, none⟩) L c_0, .int .i64 n, .slice (some ⟨g1, 0, none⟩) L c_1, .int .i64 n, .slice (some ⟨g2, 0, none⟩) L c_2, .int .i64 n, .slice (some ⟨g3, 0, none⟩) L c_3] [(.slice (some ⟨g0, 0, none⟩) L c_0, qa.set y.toNat x_k0), (.slice (some ⟨g1, 0, none⟩) L c_1, qb.set y.toNat x_k1), (.slice (some ⟨g2, 0, none⟩) L c_2, qc), (.slice (some ⟨g3, 0, none⟩) L c_3, qd)] := P.out.word (j := 1) rfl (by have := HQ1.out; omega) y.toNat x_k1
          clear P
          have P := Aside0.mk P2
          clear P2
          generalize World.setCell _ _ _ = s1 at P ⊢
          go_wp2
          rw [rounds_succ]
          go_wp2
          have b_ : s1.cell? ⟨b, 5, none⟩ = some (.slice (some ⟨g2, 0, none⟩) L c_2) := P.out.at_.2 5 _ rfl
          have o_ : s1.ownsRow w.heap.size 22 1 (.slice (some ⟨g2, 0, none⟩) L c_2) qc.length (nums .u64 qc) := P.out.rows.own 2 _ rfl
          have w_ : s1.cell? ⟨g2, y.toNat, none⟩ = some (.int .u64 x2) := (own_word o_ y p (by have := HQ2.out; omega)).trans (by rw [HX2.out])
          clear o_
          refine start_ (n := 20) (S := fun w' => w'.cell? ⟨b, 5, none⟩ = some (.slice (some ⟨g2, 0, none⟩) L c_2) ∧ w'.cell? ⟨g2, y.toNat, none⟩ = some (.int .u64 x2)) (ds := [18]) #[false, false, false, false, false, false, false, false, false, false, false, false, false, false, false, false, false, false, false, false] (by kernel_rfl) rfl rfl ⟨b_, w_⟩ (fun hHeld => ?_)
          have P2 := P.out.on (below_drew (Below.refl s1.heap.size s1))
          clear P b_ w_
          have P := Aside0.mk P2
          clear P2
          generalize s1.drew = z2 at P hHeld ⊢
          refine pure_ (i := 0) (N := (some 56)) (v := ?_) (a' := ?_) #[true, false, false, false, false, false, false, false, false, false, false, false, false, false, false, false, false, false, false, false] rfl rfl (by kernel_rfl) (fun _ _ _ h => h) (Or.inl ⟨by rfl, ?_⟩) ?_ ?_
          rotate_left
          · intro w'
            go_simp
            with_reducible rfl
          rotate_left
          · simp only [Act.put, List.setIfInBounds_toArray, List.set_cons_zero, List.set_cons_succ, i64_w, i32_w]
            rfl
          refine pure_ (i := 1) (N := (some 57)) (v := ?_) (a' := ?_) #[true, true, false, false, false, false, false, false, false, false, false, false, false, false, false, false, false, false, false, false] rfl rfl (by kernel_rfl) (fun _ _ _ h => h) (Or.inl ⟨by rfl, ?_⟩) ?_ ?_
          rotate_left
          · intro w'
            go_simp
            with_reducible rfl
          rotate_left
          · simp only [Act.put, List.setIfInBounds_toArray, List.set_cons_zero, List.set_cons_succ, i64_w, i32_w]
            rfl
          refine pure_ (i := 2) (N := (some 58)) (v := ?_) (a' := ?_) #[true, true, true, false, false, false, false, false, false, false, false, false, false, false, false, false, false, false, false, false] rfl rfl (by kernel_rfl) (fun _ _ _ h => h) (Or.inl ⟨by rfl, ?_⟩) ?_ ?_
          rotate_left
          · intro w'
            go_simp
            with_reducible rfl
          rotate_left
          · simp only [Act.put, List.setIfInBounds_toArray, List.set_cons_zero, List.set_cons_succ, i64_w, i32_w]
            rfl
          refine take_ (i := 3) (N := (some 59)) (v := ?_) (a' := ?_) #[true, true, true, true, false, false, false, false, false, false, false, false, false, false, false, false, false, false, false, false] rfl rfl (by kernel_rfl) (fun _ _ _ h => h) (Or.inl ⟨by rfl, ?_⟩) hHeld ?_ ?_
          rotate_left
          · rintro w' ⟨s0, s1⟩
            go_simp
            with_reducible rfl
          rotate_left
          · simp only [Act.put, List.setIfInBounds_toArray, List.set_cons_zero, List.set_cons_succ, i64_w, i32_w]
            rfl
          refine pure_ (i := 4) (N := (some 60)) (v := ?_) (a' := ?_) #[true, true, true, true, true, false, false, false, false, false, false, false, false, false, false, false, false, false, false, false] rfl rfl (by kernel_rfl) (fun _ _ _ h => h) (Or.inl ⟨by rfl, ?_⟩) ?_ ?_
          rotate_left
          · intro w'
            go_simp
            with_reducible rfl
          rotate_left
          · simp only [Act.put, List.setIfInBounds_toArray, List.set_cons_zero, List.set_cons_succ, i64_w, i32_w]
            rfl
          refine pure_ (i := 5) (N := (some 61)) (v := ?_) (a' := ?_) #[true, true, true, true, true, true, false, false, false, false, false, false, false, false, false, false, false, false, false, false] rfl rfl (by kernel_rfl) (fun _ _ _ h => h) (Or.inl ⟨by rfl, ?_⟩) ?_ ?_
          rotate_left
          · intro w'
            go_simp
            with_reducible rfl
          rotate_left
          · simp only [Act.put, List.setIfInBounds_toArray, List.set_cons_zero, List.set_cons_succ, i64_w, i32_w]
            rfl
          refine pure_ (i := 6) (N := (some 62)) (v := ?_) (a' := ?_) #[true, true, true, true, true, true, true, false, false, false, false, false, false, false, false, false, false, false, false, false] rfl rfl (by kernel_rfl) (fun _ _ _ h => h) (Or.inl ⟨by rfl, ?_⟩) ?_ ?_
          rotate_left
          · intro w'
            go_simp
            with_reducible rfl
          rotate_left
          · simp only [Act.put, List.setIfInBounds_toArray, List.set_cons_zero, List.set_cons_succ, i64_w, i32_w]
            rfl
          refine pure_ (i := 7) (N := (some 63)) (v := ?_) (a' := ?_) #[true, true, true, true, true, true, true, true, false, false, false, false, false, false, false, false, false, false, false, false] rfl rfl (by kernel_rfl) (fun _ _ _ h => h) (Or.inl ⟨by rfl, ?_⟩) ?_ ?_
          rotate_left
          · intro w'
            go_simp
            with_reducible rfl
          rotate_left
          · simp only [Act.put, List.setIfInBounds_toArray, List.set_cons_zero, List.set_cons_succ, i64_w, i32_w]
            rfl
          refine take_ (i := 8) (N := (some 64)) (v := ?_) (a' := ?_) #[true, true, true, true, true, true, true, true, true, false, false, false, false, false, false, false, false, false, false, false] rfl rfl (by kernel_rfl) (fun _ _ _ h => h) (Or.inl ⟨by rfl, ?_⟩) hHeld ?_ ?_
          rotate_left
          · rintro w' ⟨s0, s1⟩
            go_simp
            with_reducible rfl
          rotate_left
          · simp only [Act.put, List.setIfInBounds_toArray, List.set_cons_zero, List.set_cons_succ, i64_w, i32_w]
            rfl
          refine pure_ (i := 9) (N := (some 65)) (v := ?_) (a' := ?_) #[true, true, true, true, true, true, true, true, true, true, false, false, false, false, false, false, false, false, false, false] rfl rfl (by kernel_rfl) (fun _ _ _ h => h) (Or.inl ⟨by rfl, ?_⟩) ?_ ?_
          rotate_left
          · intro w'
            go_simp
            with_reducible rfl
          rotate_left
          · simp only [Act.put, List.setIfInBounds_toArray, List.set_cons_zero, List.set_cons_succ, i64_w, i32_w]
            rfl
          refine pure_ (i := 10) (N := (some 66)) (v := ?_) (a' := ?_) #[true, true, true, true, true, true, true, true, true, true, true, false, false, false, false, false, false, false, false, false] rfl rfl (by kernel_rfl) (fun _ _ _ h => h) (Or.inl ⟨by rfl, ?_⟩) ?_ ?_
          rotate_left
          · intro w'
            go_simp
            with_reducible rfl
          rotate_left
          · simp only [Act.put, List.setIfInBounds_toArray, List.set_cons_zero, List.set_cons_succ, i64_w, i32_w]
            rfl
          refine take_ (i := 11) (N := (some 67)) (v := ?_) (a' := ?_) #[true, true, true, true, true, true, true, true, true, true, true, true, false, false, false, false, false, false, false, false] rfl rfl (by kernel_rfl) (fun _ _ _ h => h) (Or.inl ⟨by rfl, ?_⟩) hHeld ?_ ?_
          rotate_left
          · rintro w' ⟨s0, s1⟩
            go_simp
            with_reducible rfl
          rotate_left
          · simp only [Act.put, List.setIfInBounds_toArray, List.set_cons_zero, List.set_cons_succ, i64_w, i32_w]
            rfl
          refine pure_ (i := 12) (N := (some 68)) (v := ?_) (a' := ?_) #[true, true, true, true, true, true, true, true, true, true, true, true, true, false, false, false, false, false, false, false] rfl rfl (by kernel_rfl) (fun _ _ _ h => h) (Or.inl ⟨by rfl, ?_⟩) ?_ ?_
          rotate_left
          · intro w'
            go_simp
            with_reducible rfl
          rotate_left
          · simp only [Act.put, List.setIfInBounds_toArray, List.set_cons_zero, List.set_cons_succ, i64_w, i32_w]
            rfl
          refine one_ (i := 13) (N := (some 69)) #[true, true, true, true, true, true, true, true, true, true, true, true, true, true, false, false, false, false, false, false] rfl rfl (by kernel_rfl) (by decide) (fun K hK => ?_)
          refine goes_ Try.func14 (by kernel_rfl) rfl #[.int .u64 x2, .int .u64 k2] (by rfl) rfl rfl (by (try simp only [List.map_toArray, List.map_cons, List.map_nil]); first | done | rfl) ?_
          with_reducible refine (words_Half.calls x2 k2 (Go.bits .xor .u64 x2 k2) (Go.bits .and .u64 x2 k2) _ rfl).mono ?_
          rintro er_ z2' ⟨rfl, ⟨nd_, rfl⟩⟩
          refine ⟨_, rfl, ?_⟩
          have P2 := P.out.on (pw_below_drewN (Below.refl z2.heap.size z2) nd_)
          refine hK.out _ _ ⟨P2.at_.2 5 _ rfl, (own_word (show (z2.drewN nd_).ownsRow w.heap.size 22 1 (.slice (some ⟨g2, 0, none⟩) L c_2) qc.length (nums .u64 qc) from P2.rows.own 2 _ rfl) y p (by have := HQ2.out; omega)).trans (by rw [HX2.out])⟩ (fun hHeld => ?_)
          clear hK K P
          have P := Aside0.mk P2
          clear P2
          generalize z2.drewN nd_ = y2 at P hHeld ⊢
          obtain ⟨x_k2, hk2⟩ : ∃ q, Go.bits .xor .u64 x2 k2 = q := ⟨_, rfl⟩
          obtain ⟨k3, hc2⟩ : ∃ q, Go.bits .and .u64 x2 k2 = q := ⟨_, rfl⟩
          rw [hk2, hc2]
          have HK2 := Aside0.mk hk2
          have HC2' := Aside0.mk hc2
          clear hk2 hc2
          refine pure_ (i := 14) (N := (some 55)) (v := ?_) (a' := ?_) #[true, true, true, true, true, true, true, true, true, true, true, true, true, true, true, false, false, false, false, false] rfl rfl (by kernel_rfl) (fun _ _ _ h => h) (Or.inl ⟨by rfl, ?_⟩) ?_ ?_
          rotate_left
          · intro w'
            go_simp
            with_reducible rfl
          rotate_left
          · simp only [Act.put, List.setIfInBounds_toArray, List.set_cons_zero, List.set_cons_succ, i64_w, i32_w]
            rfl
          refine pure_ (i := 15) (N := (some 70)) (v := ?_) (a' := ?_) #[true, true, true, true, true, true, true, true, true, true, true, true, true, true, true, true, false, false, false, false] rfl rfl (by kernel_rfl) (fun _ _ _ h => h) (Or.inl ⟨by rfl, ?_⟩) ?_ ?_
          rotate_left
          · intro w'
            go_simp
            with_reducible rfl
          rotate_left
          · simp only [Act.put, List.setIfInBounds_toArray, List.set_cons_zero, List.set_cons_succ, i64_w, i32_w]
            rfl
          refine pure_ (i := 16) (N := (some 71)) (v := ?_) (a' := ?_) #[true, true, true, true, true, true, true, true, true, true, true, true, true, true, true, true, true, false, false, false] rfl rfl (by kernel_rfl) (fun _ _ _ h => h) (Or.inl ⟨by rfl, ?_⟩) ?_ ?_
          rotate_left
          · intro w'
            go_simp
            with_reducible rfl
          rotate_left
          · simp only [Act.put, List.setIfInBounds_toArray, List.set_cons_zero, List.set_cons_succ, i64_w, i32_w]
            rfl
          refine pure_ (i := 17) (N := (some 72)) (v := ?_) (a' := ?_) #[true, true, true, true, true, true, true, true, true, true, true, true, true, true, true, true, true, true, false, false] rfl rfl (by kernel_rfl) (fun _ _ _ h => h) (Or.inl ⟨by rfl, ?_⟩) ?_ ?_
          rotate_left
          · intro w'
            go_simp
            with_reducible rfl
          rotate_left
          · simp only [Act.put, List.setIfInBounds_toArray, List.set_cons_zero, List.set_cons_succ, i64_w, i32_w]
            rfl
          refine last_ (i := 18) (N := none) #[true, true, true, true, true, true, true, true, true, true, true, true, true, true, true, true, true, true, true, false] rfl rfl (by kernel_rfl) (by decide) (fun K hK => ?_)
          have c_ := hHeld.2
          have f_ := own_frozen (P.out.rows.own 2 _ rfl) y.toNat
          refine skip_ (w1 := y2.setCell ⟨g2, y.toNat, none⟩ (.int .u64 x_k2)) (by rfl) rfl ?_ ?_
          · first | (go_simp; done) | (go_simp; rfl)
          refine hK.out _ _ ?_
          clear hK K hHeld c_ f_
          refine pure_ (i := 19) (N := (some 11)) (v := ?_) (a' := ?_) #[true, true, true, true, true, true, true, true, true, true, true, true, true, true, true, true, true, true, true, true] rfl rfl (by kernel_rfl) (fun _ _ _ h => h) (Or.inl ⟨by rfl, ?_⟩) ?_ ?_
          rotate_left
          · intro w'
            go_simp
            with_reducible rfl
          rotate_left
          · simp only [Act.put, List.setIfInBounds_toArray, List.set_cons_zero, List.set_cons_succ, i64_w, i32_w]
            rfl
          refine done_ (by kernel_rfl) ?_
          have P2 : CS w _ b r [.int .i64 n, .slice (some ⟨g0, 0, none⟩) L c_0, .int .i64 n, .slice (some ⟨g1, 0, none⟩) L c_1, .int .i64 n, .slice (some ⟨g2, 0, none⟩) L c_2, .int .i64 n, .slice (some ⟨g3, 0, none⟩) L c_3] [(.slice (some ⟨g0, 0, none⟩) L c_0, qa.set y.toNat x_k0), (.slice (some ⟨g1, 0, none⟩) L c_1, qb.set y.toNat x_k1), (.slice (some ⟨g2, 0, none⟩) L c_2, qc.set y.toNat x_k2), (.slice (some ⟨g3, 0, none⟩) L c_3, qd)] := P.out.word (j := 2) rfl (by have := HQ2.out; omega) y.toNat x_k2
          clear P
          have P := Aside0.mk P2
          clear P2
          generalize World.setCell _ _ _ = s2 at P ⊢
          go_wp2
          rw [rounds_succ]
          go_wp2
          have b_ : s2.cell? ⟨b, 7, none⟩ = some (.slice (some ⟨g3, 0, none⟩) L c_3) := P.out.at_.2 7 _ rfl
          have o_ : s2.ownsRow w.heap.size 22 1 (.slice (some ⟨g3, 0, none⟩) L c_3) qd.length (nums .u64 qd) := P.out.rows.own 3 _ rfl
          have w_ : s2.cell? ⟨g3, y.toNat, none⟩ = some (.int .u64 x3) := (own_word o_ y p (by have := HQ3.out; omega)).trans (by rw [HX3.out])
          clear o_
          refine start_ (n := 20) (S := fun w' => w'.cell? ⟨b, 7, none⟩ = some (.slice (some ⟨g3, 0, none⟩) L c_3) ∧ w'.cell? ⟨g3, y.toNat, none⟩ = some (.int .u64 x3)) (ds := [18]) #[false, false, false, false, false, false, false, false, false, false, false, false, false, false, false, false, false, false, false, false] (by kernel_rfl) rfl rfl ⟨b_, w_⟩ (fun hHeld => ?_)
          have P2 := P.out.on (below_drew (Below.refl s2.heap.size s2))
          clear P b_ w_
          have P := Aside0.mk P2
          clear P2
          generalize s2.drew = z3 at P hHeld ⊢
          refine pure_ (i := 0) (N := (some 56)) (v := ?_) (a' := ?_) #[true, false, false, false, false, false, false, false, false, false, false, false, false, false, false, false, false, false, false, false] rfl rfl (by kernel_rfl) (fun _ _ _ h => h) (Or.inl ⟨by rfl, ?_⟩) ?_ ?_
          rotate_left
          · intro w'
            go_simp
            with_reducible rfl
          rotate_left
          · simp only [Act.put, List.setIfInBounds_toArray, List.set_cons_zero, List.set_cons_succ, i64_w, i32_w]
            rfl
          refine pure_ (i := 1) (N := (some 57)) (v := ?_) (a' := ?_) #[true, true, false, false, false, false, false, false, false, false, false, false, false, false, false, false, false, false, false, false] rfl rfl (by kernel_rfl) (fun _ _ _ h => h) (Or.inl ⟨by rfl, ?_⟩) ?_ ?_
          rotate_left
          · intro w'
            go_simp
            with_reducible rfl
          rotate_left
          · simp only [Act.put, List.setIfInBounds_toArray, List.set_cons_zero, List.set_cons_succ, i64_w, i32_w]
            rfl
          refine pure_ (i := 2) (N := (some 58)) (v := ?_) (a' := ?_) #[true, true, true, false, false, false, false, false, false, false, false, false, false, false, false, false, false, false, false, false] rfl rfl (by kernel_rfl) (fun _ _ _ h => h) (Or.inl ⟨by rfl, ?_⟩) ?_ ?_
          rotate_left
          · intro w'
            go_simp
            with_reducible rfl
          rotate_left
          · simp only [Act.put, List.setIfInBounds_toArray, List.set_cons_zero, List.set_cons_succ, i64_w, i32_w]
            rfl
          refine take_ (i := 3) (N := (some 59)) (v := ?_) (a' := ?_) #[true, true, true, true, false, false, false, false, false, false, false, false, false, false, false, false, false, false, false, false] rfl rfl (by kernel_rfl) (fun _ _ _ h => h) (Or.inl ⟨by rfl, ?_⟩) hHeld ?_ ?_
          rotate_left
          · rintro w' ⟨s0, s1⟩
            go_simp
            with_reducible rfl
          rotate_left
          · simp only [Act.put, List.setIfInBounds_toArray, List.set_cons_zero, List.set_cons_succ, i64_w, i32_w]
            rfl
          refine pure_ (i := 4) (N := (some 60)) (v := ?_) (a' := ?_) #[true, true, true, true, true, false, false, false, false, false, false, false, false, false, false, false, false, false, false, false] rfl rfl (by kernel_rfl) (fun _ _ _ h => h) (Or.inl ⟨by rfl, ?_⟩) ?_ ?_
          rotate_left
          · intro w'
            go_simp
            with_reducible rfl
          rotate_left
          · simp only [Act.put, List.setIfInBounds_toArray, List.set_cons_zero, List.set_cons_succ, i64_w, i32_w]
            rfl
          refine pure_ (i := 5) (N := (some 61)) (v := ?_) (a' := ?_) #[true, true, true, true, true, true, false, false, false, false, false, false, false, false, false, false, false, false, false, false] rfl rfl (by kernel_rfl) (fun _ _ _ h => h) (Or.inl ⟨by rfl, ?_⟩) ?_ ?_
          rotate_left
          · intro w'
            go_simp
            with_reducible rfl
          rotate_left
          · simp only [Act.put, List.setIfInBounds_toArray, List.set_cons_zero, List.set_cons_succ, i64_w, i32_w]
            rfl
          refine pure_ (i := 6) (N := (some 62)) (v := ?_) (a' := ?_) #[true, true, true, true, true, true, true, false, false, false, false, false, false, false, false, false, false, false, false, false] rfl rfl (by kernel_rfl) (fun _ _ _ h => h) (Or.inl ⟨by rfl, ?_⟩) ?_ ?_
          rotate_left
          · intro w'
            go_simp
            with_reducible rfl
          rotate_left
          · simp only [Act.put, List.setIfInBounds_toArray, List.set_cons_zero, List.set_cons_succ, i64_w, i32_w]
            rfl
          refine pure_ (i := 7) (N := (some 63)) (v := ?_) (a' := ?_) #[true, true, true, true, true, true, true, true, false, false, false, false, false, false, false, false, false, false, false, false] rfl rfl (by kernel_rfl) (fun _ _ _ h => h) (Or.inl ⟨by rfl, ?_⟩) ?_ ?_
          rotate_left
          · intro w'
            go_simp
            with_reducible rfl
          rotate_left
          · simp only [Act.put, List.setIfInBounds_toArray, List.set_cons_zero, List.set_cons_succ, i64_w, i32_w]
            rfl
          refine take_ (i := 8) (N := (some 64)) (v := ?_) (a' := ?_) #[true, true, true, true, true, true, true, true, true, false, false, false, false, false, false, false, false, false, false, false] rfl rfl (by kernel_rfl) (fun _ _ _ h => h) (Or.inl ⟨by rfl, ?_⟩) hHeld ?_ ?_
          rotate_left
          · rintro w' ⟨s0, s1⟩
            go_simp
            with_reducible rfl
          rotate_left
          · simp only [Act.put, List.setIfInBounds_toArray, List.set_cons_zero, List.set_cons_succ, i64_w, i32_w]
            rfl
          refine pure_ (i := 9) (N := (some 65)) (v := ?_) (a' := ?_) #[true, true, true, true, true, true, true, true, true, true, false, false, false, false, false, false, false, false, false, false] rfl rfl (by kernel_rfl) (fun _ _ _ h => h) (Or.inl ⟨by rfl, ?_⟩) ?_ ?_
          rotate_left
          · intro w'
            go_simp
            with_reducible rfl
          rotate_left
          · simp only [Act.put, List.setIfInBounds_toArray, List.set_cons_zero, List.set_cons_succ, i64_w, i32_w]
            rfl
          refine pure_ (i := 10) (N := (some 66)) (v := ?_) (a' := ?_) #[true, true, true, true, true, true, true, true, true, true, true, false, false, false, false, false, false, false, false, false] rfl rfl (by kernel_rfl) (fun _ _ _ h => h) (Or.inl ⟨by rfl, ?_⟩) ?_ ?_
          rotate_left
          · intro w'
            go_simp
            with_reducible rfl
          rotate_left
          · simp only [Act.put, List.setIfInBounds_toArray, List.set_cons_zero, List.set_cons_succ, i64_w, i32_w]
            rfl
          refine take_ (i := 11) (N := (some 67)) (v := ?_) (a' := ?_) #[true, true, true, true, true, true, true, true, true, true, true, true, false, false, false, false, false, false, false, false] rfl rfl (by kernel_rfl) (fun _ _ _ h => h) (Or.inl ⟨by rfl, ?_⟩) hHeld ?_ ?_
          rotate_left
          · rintro w' ⟨s0, s1⟩
            go_simp
            with_reducible rfl
          rotate_left
          · simp only [Act.put, List.setIfInBounds_toArray, List.set_cons_zero, List.set_cons_succ, i64_w, i32_w]
            rfl
          refine pure_ (i := 12) (N := (some 68)) (v := ?_) (a' := ?_) #[true, true, true, true, true, true, true, true, true, true, true, true, true, false, false, false, false, false, false, false] rfl rfl (by kernel_rfl) (fun _ _ _ h => h) (Or.inl ⟨by rfl, ?_⟩) ?_ ?_
          rotate_left
          · intro w'
            go_simp
            with_reducible rfl
          rotate_left
          · simp only [Act.put, List.setIfInBounds_toArray, List.set_cons_zero, List.set_cons_succ, i64_w, i32_w]
            rfl
          refine one_ (i := 13) (N := (some 69)) #[true, true, true, true, true, true, true, true, true, true, true, true, true, true, false, false, false, false, false, false] rfl rfl (by kernel_rfl) (by decide) (fun K hK => ?_)
          refine goes_ Try.func14 (by kernel_rfl) rfl #[.int .u64 x3, .int .u64 k3] (by rfl) rfl rfl (by (try simp only [List.map_toArray, List.map_cons, List.map_nil]); first | done | rfl) ?_
          with_reducible refine (words_Half.calls x3 k3 (Go.bits .xor .u64 x3 k3) (Go.bits .and .u64 x3 k3) _ rfl).mono ?_
          rintro er_ z3' ⟨rfl, ⟨nd_, rfl⟩⟩
          refine ⟨_, rfl, ?_⟩
          have P2 := P.out.on (pw_below_drewN (Below.refl z3.heap.size z3) nd_)
          refine hK.out _ _ ⟨P2.at_.2 7 _ rfl, (own_word (show (z3.drewN nd_).ownsRow w.heap.size 22 1 (.slice (some ⟨g3, 0, none⟩) L c_3) qd.length (nums .u64 qd) from P2.rows.own 3 _ rfl) y p (by have := HQ3.out; omega)).trans (by rw [HX3.out])⟩ (fun hHeld => ?_)
          clear hK K P
          have P := Aside0.mk P2
          clear P2
          generalize z3.drewN nd_ = y3 at P hHeld ⊢
          obtain ⟨x_k3, hk3⟩ : ∃ q, Go.bits .xor .u64 x3 k3 = q := ⟨_, rfl⟩
          obtain ⟨k4, hc3⟩ : ∃ q, Go.bits .and .u64 x3 k3 = q := ⟨_, rfl⟩
          rw [hk3, hc3]
          have HK3 := Aside0.mk hk3
          have HC3' := Aside0.mk hc3
          clear hk3 hc3
          refine pure_ (i := 14) (N := (some 55)) (v := ?_) (a' := ?_) #[true, true, true, true, true, true, true, true, true, true, true, true, true, true, true, false, false, false, false, false] rfl rfl (by kernel_rfl) (fun _ _ _ h => h) (Or.inl ⟨by rfl, ?_⟩) ?_ ?_
          rotate_left
          · intro w'
            go_simp
            with_reducible rfl
          rotate_left
          · simp only [Act.put, List.setIfInBounds_toArray, List.set_cons_zero, List.set_cons_succ, i64_w, i32_w]
            rfl
          refine pure_ (i := 15) (N := (some 70)) (v := ?_) (a' := ?_) #[true, true, true, true, true, true, true, true, true, true, true, true, true, true, true, true, false, false, false, false] rfl rfl (by kernel_rfl) (fun _ _ _ h => h) (Or.inl ⟨by rfl, ?_⟩) ?_ ?_
          rotate_left
          · intro w'
            go_simp
            with_reducible rfl
          rotate_left
          · simp only [Act.put, List.setIfInBounds_toArray, List.set_cons_zero, List.set_cons_succ, i64_w, i32_w]
            rfl
          refine pure_ (i := 16) (N := (some 71)) (v := ?_) (a' := ?_) #[true, true, true, true, true, true, true, true, true, true, true, true, true, true, true, true, true, false, false, false] rfl rfl (by kernel_rfl) (fun _ _ _ h => h) (Or.inl ⟨by rfl, ?_⟩) ?_ ?_
          rotate_left
          · intro w'
            go_simp
            with_reducible rfl
          rotate_left
          · simp only [Act.put, List.setIfInBounds_toArray, List.set_cons_zero, List.set_cons_succ, i64_w, i32_w]
            rfl
          refine pure_ (i := 17) (N := (some 72)) (v := ?_) (a' := ?_) #[true, true, true, true, true, true, true, true, true, true, true, true, true, true, true, true, true, true, false, false] rfl rfl (by kernel_rfl) (fun _ _ _ h => h) (Or.inl ⟨by rfl, ?_⟩) ?_ ?_
          rotate_left
          · intro w'
            go_simp
            with_reducible rfl
          rotate_left
          · simp only [Act.put, List.setIfInBounds_toArray, List.set_cons_zero, List.set_cons_succ, i64_w, i32_w]
            rfl
          refine last_ (i := 18) (N := none) #[true, true, true, true, true, true, true, true, true, true, true, true, true, true, true, true, true, true, true, false] rfl rfl (by kernel_rfl) (by decide) (fun K hK => ?_)
          have c_ := hHeld.2
          have f_ := own_frozen (P.out.rows.own 3 _ rfl) y.toNat
          refine skip_ (w1 := y3.setCell ⟨g3, y.toNat, none⟩ (.int .u64 x_k3)) (by rfl) rfl ?_ ?_
          · first | (go_simp; done) | (go_simp; rfl)
          refine hK.out _ _ ?_
          clear hK K hHeld c_ f_
          refine pure_ (i := 19) (N := (some 11)) (v := ?_) (a' := ?_) #[true, true, true, true, true, true, true, true, true, true, true, true, true, true, true, true, true, true, true, true] rfl rfl (by kernel_rfl) (fun _ _ _ h => h) (Or.inl ⟨by rfl, ?_⟩) ?_ ?_
          rotate_left
          · intro w'
            go_simp
            with_reducible rfl
          rotate_left
          · simp only [Act.put, List.setIfInBounds_toArray, List.set_cons_zero, List.set_cons_succ, i64_w, i32_w]
            rfl
          refine done_ (by kernel_rfl) ?_
          have P2 : CS w _ b r [.int .i64 n, .slice (some ⟨g0, 0, none⟩) L c_0, .int .i64 n, .slice (some ⟨g1, 0, none⟩) L c_1, .int .i64 n, .slice (some ⟨g2, 0, none⟩) L c_2, .int .i64 n, .slice (some ⟨g3, 0, none⟩) L c_3] [(.slice (some ⟨g0, 0, none⟩) L c_0, qa.set y.toNat x_k0), (.slice (some ⟨g1, 0, none⟩) L c_1, qb.set y.toNat x_k1), (.slice (some ⟨g2, 0, none⟩) L c_2, qc.set y.toNat x_k2), (.slice (some ⟨g3, 0, none⟩) L c_3, qd.set y.toNat x_k3)] := P.out.word (j := 3) rfl (by have := HQ3.out; omega) y.toNat x_k3
          clear P
          have P := Aside0.mk P2
          clear P2
          generalize World.setCell _ _ _ = s3 at P ⊢
          go_wp2
          rw [rounds_succ]
          go_wp2
          go_roundg (L - (y + 1).toNat)
          case measure => go_light; have := HY.out; omega
          case rel =>
            go_light
            refine ⟨y + 1, by have hw : wrap64 (y + 1) = y + 1 := (by unfold wrap64; omega); first | rfl | (rw [hw]; done) | (simp [hw]; done), ⟨by omega, by omega, by omega⟩, ⟨?_⟩⟩
            have h2 := P.out
            rw [show (y + 1).toNat = y.toNat + 1 by omega]
            have e1 : Q4.wordsTo (Q4.rowsTo (zero4 L) l j.toNat) ws (y.toNat + 1) = ⟨qa.set y.toNat x_k0, qb.set y.toNat x_k1, qc.set y.toNat x_k2, qd.set y.toNat x_k3⟩ := by
              have hwd : ws.getD y.toNat 0 = wd := HWD.out
              show Q4.word (Q4.wordsTo (Q4.rowsTo (zero4 L) l j.toNat) ws y.toNat) y.toNat (ws.getD y.toNat 0) = _
              rw [HQ.out, hwd]
              unfold Q4.word
              simp only
              rw [HX0.out, HX1.out, HX2.out, HX3.out, HC0'.out, HC1'.out, HC2'.out, HK0.out, HK1.out, HK2.out, HK3.out]
            rw [e1]
            exact h2
        · have hy : y = L := by have := HY.out; omega
          subst hy
          go_wp2
          go_roundg (l.length - (j + 1).toNat)
          case measure => go_light; have := HJ.out; omega
          case rel =>
            go_light
            refine ⟨j + 1, by have hw : wrap64 (j + 1) = j + 1 := (by unfold wrap64; omega); first | rfl | (rw [hw]; done) | (simp [hw]; done), ⟨by omega, by omega, by omega⟩, ⟨?_⟩⟩
            rw [show (j + 1).toNat = j.toNat + 1 by omega]
            have e1 : Q4.rowsTo (zero4 L) l (j.toNat + 1) = Q4.wordsTo (Q4.rowsTo (zero4 L) l j.toNat) ws L := by
              show Q4.wordsTo (Q4.rowsTo (zero4 L) l j.toNat) (l.getD j.toNat z31).f1 (l.getD j.toNat z31).f1.length = _
              have hws : (l.getD j.toNat z31).f1 = ws := HWS.out
              rw [hws, HLN.out]
            rw [e1]
            have h2 := P.out
            rwa [Int.toNat_natCast] at h2
    · have hj : j = l.length := by have := HJ.out; omega
      subst hj
      have x_0 := P.out.at_.2 0 _ rfl
      have z_0 : wr.cell? ⟨r, 0, none⟩ = some (.int .i64 0) := (blk_cell P.out.rx 0).trans rfl
      have f_0 := blk_frozen P.out.rx 0
      have x_1 := P.out.at_.2 1 _ rfl
      have z_1 : wr.cell? ⟨r, 1, none⟩ = some (.slice none 0 0) := (blk_cell P.out.rx 1).trans rfl
      have f_1 := blk_frozen P.out.rx 1
      have x_2 := P.out.at_.2 2 _ rfl
      have z_2 : wr.cell? ⟨r, 2, none⟩ = some (.int .i64 0) := (blk_cell P.out.rx 2).trans rfl
      have f_2 := blk_frozen P.out.rx 2
      have x_3 := P.out.at_.2 3 _ rfl
      have z_3 : wr.cell? ⟨r, 3, none⟩ = some (.slice none 0 0) := (blk_cell P.out.rx 3).trans rfl
      have f_3 := blk_frozen P.out.rx 3
      have x_4 := P.out.at_.2 4 _ rfl
      have z_4 : wr.cell? ⟨r, 4, none⟩ = some (.int .i64 0) := (blk_cell P.out.rx 4).trans rfl
      have f_4 := blk_frozen P.out.rx 4
      have x_5 := P.out.at_.2 5 _ rfl
      have z_5 : wr.cell? ⟨r, 5, none⟩ = some (.slice none 0 0) := (blk_cell P.out.rx 5).trans rfl
      have f_5 := blk_frozen P.out.rx 5
      have x_6 := P.out.at_.2 6 _ rfl
      have z_6 : wr.cell? ⟨r, 6, none⟩ = some (.int .i64 0) := (blk_cell P.out.rx 6).trans rfl
      have f_6 := blk_frozen P.out.rx 6
      have x_7 := P.out.at_.2 7 _ rfl
      have z_7 : wr.cell? ⟨r, 7, none⟩ = some (.slice none 0 0) := (blk_cell P.out.rx 7).trans rfl
      have f_7 := blk_frozen P.out.rx 7
      go_wp2
      obtain ⟨d1, d2, d3⟩ := P.out.done (.int .i64 n) (.slice A_0 L c_0) (.int .i64 n) (.slice A_1 L c_1) (.int .i64 n) (.slice A_2 L c_2) (.int .i64 n) (.slice A_3 L c_3) _ rfl
      rw [Int.toNat_natCast] at d2
      exact bodyPost_ret (results_ct rfl _ _ r 54 _ (0, 0) _ rfl d1 hu4 rfl (by kernel_rfl)) rfl ⟨_, _, _, _, rfl, d2, d3⟩
end Go.Proofs.Ytlghmadoogblcaa.CountWalk
end
section
namespace Go.Proofs.Ytlghmadoogblcaa.CountWalk
open Go Go.RowKit Go.Proofs.YtlghmadoogblcaaW.PrintWords Go.Proofs.YtlghmadoogblcaaW.PrintLast Go.Proofs.YtlghmadoogblcaaW.PrintMore Go.Proofs.Ytlghmadoogblcaa.PW Go.Proofs.Ytlghmadoogblcaa.Book Go.Proofs.Ytlghmadoogblcaa.Lent Go.Proofs.Ytlghmadoogblcaa.Pile Go.Proofs.Ytlghmadoogblcaa.Rows4
set_option linter.unusedVariables false
set_option linter.unusedSimpArgs false
set_option maxHeartbeats 8000000 in
set_option maxRecDepth 100000 in
theorem count_none (k : Nat) (A0 : Option Addr) (c0 : Nat) (w : World) (hfit : words_fits.f k [] = some 0) (hbl : words_blank.f 0 = some (0, [])) :
    Calls Try.prog 33 #[.slice A0 0 c0] w fun e w' => ∃ v0 v1 v2 v3, e = .returned (.tuple #[.agg (cells4 0 v0 v1 v2 v3).toArray, .int .i64 0]) ∧ Rws w.heap.size w' ((⟨[], [], [], []⟩ : Q4).rows v0 v1 v2 v3) ∧ Below w.heap.size w w' := by
  have HF := Aside0.mk hfit; have HBL := Aside0.mk hbl
  have hu := Try.underlying31
  have hu4 := Try.underlying54
  clear hfit hbl
  go_enter Try.func33, Try.ntmps33
  go_wp2_with (first
    | ((with_reducible refine gate_dst (N := 2) rfl ?_); refine box_event ?hg2 (N := 2) ?hd2 (cs := #[.int .i64 0, .slice none 0 0, .int .i64 0, .slice none 0 0, .int .i64 0, .slice none 0 0, .int .i64 0, .slice none 0 0]) (t := 54) ?hr2 ?_; (case hd2 => rfl); (case hg2 => rfl); (case hr2 => first | (go_simp; done) | (go_simp; rfl)); intro r gr W1 x1 hb1; have hgr : w.heap.size ≤ r := (by omega); clear gr)
    | ((with_reducible refine gate_dst (N := 4) rfl ?_); refine box_event ?hg4 (N := 4) ?hd4 (cs := #[.int .i64 0, .slice none 0 0, .int .i64 0, .slice none 0 0, .int .i64 0, .slice none 0 0, .int .i64 0, .slice none 0 0]) (t := 54) ?hr4 ?_; (case hd4 => rfl); (case hg4 => rfl); (case hr4 => first | (go_simp; done) | (go_simp; rfl)); intro b gb W2 x2 hb2; have P2 : CS w W2 b r (cells4 0 (.slice none 0 0) (.slice none 0 0) (.slice none 0 0) (.slice none 0 0)) [] := ⟨chain_ hb1 hb2, x2, blk_below x1 hb2, (by have := hb1.size; omega), (by omega), (by have := blk_lt x1; omega), Rws.nil⟩; have P := Aside0.mk P2; clear P2 x1 x2 hb1 hb2 gb)
    | (go_at_call 55; have P1 := P.out; have h_ : Calls Try.prog 55 #[.slice A0 0 c0] W2 (fun e w' => e = .returned (.int .i64 0) ∧ Below W2.heap.size W2 w') := words_fits.calls k A0 c0 [] 0 W2 ⟨rfl, by simp, fun h => absurd h (Nat.lt_irrefl 0)⟩ (Nat.zero_le _) HF.out; with_reducible refine h_.mono ?_; clear h_; rintro er_ v1 ⟨rfl, hb⟩; have P2 := P1.on hb; clear hb P P1; have P := Aside0.mk P2; clear P2))
  refine wp_loop_rounds 5 ?_
  rw [rounds_succ]
  go_wp2_with (go_at_call 47; have P1 := P.out; with_reducible refine (words_blank.calls 0 0 [] _ HBL.out).mono ?_; rintro er_ u0 ⟨t_, rfl, hR, hb⟩; obtain ⟨A_0, c_0, e_, -, -⟩ := Kd.R_reads hR; rw [List.length_nil] at e_; subst e_; have P2 := P1.told hb hR; clear hb hR P P1; have P := Aside0.mk P2; clear P2; have x_0 := P.out.at_.2 0 _ rfl; have f_0 := blk_frozen P.out.bx 0; have x_1 := P.out.at_.2 1 _ rfl; have f_1 := blk_frozen P.out.bx 1; have x_2 := P.out.at_.2 2 _ rfl; have f_2 := blk_frozen P.out.bx 2; have x_3 := P.out.at_.2 3 _ rfl; have f_3 := blk_frozen P.out.bx 3; have x_4 := P.out.at_.2 4 _ rfl; have f_4 := blk_frozen P.out.bx 4; have x_5 := P.out.at_.2 5 _ rfl; have f_5 := blk_frozen P.out.bx 5; have x_6 := P.out.at_.2 6 _ rfl; have f_6 := blk_frozen P.out.bx 6; have x_7 := P.out.at_.2 7 _ rfl; have f_7 := blk_frozen P.out.bx 7; have q_b := P.out.at_.1)
  have P2 : CS w _ b r [.int .i64 0, .slice A_0 0 c_0, .int .i64 0, .slice none 0 0, .int .i64 0, .slice none 0 0, .int .i64 0, .slice none 0 0] [(.slice A_0 0 c_0, [])] := P.out.put 0 (.int .i64 0) (.slice A_0 0 c_0) (by simp [cells4])
  clear x_0 f_0 x_1 f_1 x_2 f_2 x_3 f_3 x_4 f_4 x_5 f_5 x_6 f_6 x_7 f_7 q_b
  clear P
  have P := Aside0.mk P2
  clear P2
  generalize (World.setCell _ _ _).setCell _ _ = w0 at P ⊢
  rw [rounds_succ]
  go_wp2_with (go_at_call 47; have P1 := P.out; with_reducible refine (words_blank.calls 0 0 [] _ HBL.out).mono ?_; rintro er_ u1 ⟨t_, rfl, hR, hb⟩; obtain ⟨A_1, c_1, e_, -, -⟩ := Kd.R_reads hR; rw [List.length_nil] at e_; subst e_; have P2 := P1.told hb hR; clear hb hR P P1; have P := Aside0.mk P2; clear P2; have x_0 := P.out.at_.2 0 _ rfl; have f_0 := blk_frozen P.out.bx 0; have x_1 := P.out.at_.2 1 _ rfl; have f_1 := blk_frozen P.out.bx 1; have x_2 := P.out.at_.2 2 _ rfl; have f_2 := blk_frozen P.out.bx 2; have x_3 := P.out.at_.2 3 _ rfl; have f_3 := blk_frozen P.out.bx 3; have x_4 := P.out.at_.2 4 _ rfl; have f_4 := blk_frozen P.out.bx 4; have x_5 := P.out.at_.2 5 _ rfl; have f_5 := blk_frozen P.out.bx 5; have x_6 := P.out.at_.2 6 _ rfl; have f_6 := blk_frozen P.out.bx 6; have x_7 := P.out.at_.2 7 _ rfl; have f_7 := blk_frozen P.out.bx 7; have q_b := P.out.at_.1)
  have P2 : CS w _ b r [.int .i64 0, .slice A_0 0 c_0, .int .i64 0, .slice A_1 0 c_1, .int .i64 0, .slice none 0 0, .int .i64 0, .slice none 0 0] [(.slice A_0 0 c_0, []), (.slice A_1 0 c_1, [])] := P.out.put 2 (.int .i64 0) (.slice A_1 0 c_1) (by simp [cells4])
  clear x_0 f_0 x_1 f_1 x_2 f_2 x_3 f_3 x_4 f_4 x_5 f_5 x_6 f_6 x_7 f_7 q_b
  clear P
  have P := Aside0.mk P2
  clear P2
  generalize (World.setCell _ _ _).setCell _ _ = w1 at P ⊢
  rw [rounds_succ]
  go_wp2_with (go_at_call 47; have P1 := P.out; with_reducible refine (words_blank.calls 0 0 [] _ HBL.out).mono ?_; rintro er_ u2 ⟨t_, rfl, hR, hb⟩; obtain ⟨A_2, c_2, e_, -, -⟩ := Kd.R_reads hR; rw [List.length_nil] at e_; subst e_; have P2 := P1.told hb hR; clear hb hR P P1; have P := Aside0.mk P2; clear P2; have x_0 := P.out.at_.2 0 _ rfl; have f_0 := blk_frozen P.out.bx 0; have x_1 := P.out.at_.2 1 _ rfl; have f_1 := blk_frozen P.out.bx 1; have x_2 := P.out.at_.2 2 _ rfl; have f_2 := blk_frozen P.out.bx 2; have x_3 := P.out.at_.2 3 _ rfl; have f_3 := blk_frozen P.out.bx 3; have x_4 := P.out.at_.2 4 _ rfl; have f_4 := blk_frozen P.out.bx 4; have x_5 := P.out.at_.2 5 _ rfl; have f_5 := blk_frozen P.out.bx 5; have x_6 := P.out.at_.2 6 _ rfl; have f_6 := blk_frozen P.out.bx 6; have x_7 := P.out.at_.2 7 _ rfl; have f_7 := blk_frozen P.out.bx 7; have q_b := P.out.at_.1)
  have P2 : CS w _ b r [.int .i64 0, .slice A_0 0 c_0, .int .i64 0, .slice A_1 0 c_1, .int .i64 0, .slice A_2 0 c_2, .int .i64 0, .slice none 0 0] [(.slice A_0 0 c_0, []), (.slice A_1 0 c_1, []), (.slice A_2 0 c_2, [])] := P.out.put 4 (.int .i64 0) (.slice A_2 0 c_2) (by simp [cells4])
  clear x_0 f_0 x_1 f_1 x_2 f_2 x_3 f_3 x_4 f_4 x_5 f_5 x_6 f_6 x_7 f_7 q_b
  clear P
  have P := Aside0.mk P2
  clear P2
  generalize (World.setCell _ _ _).setCell _ _ = w2 at P ⊢
  rw [rounds_succ]
  go_wp2_with (go_at_call 47; have P1 := P.out; with_reducible refine (words_blank.calls 0 0 [] _ HBL.out).mono ?_; rintro er_ u3 ⟨t_, rfl, hR, hb⟩; obtain ⟨A_3, c_3, e_, -, -⟩ := Kd.R_reads hR; rw [List.length_nil] at e_; subst e_; have P2 := P1.told hb hR; clear hb hR P P1; have P := Aside0.mk P2; clear P2; have x_0 := P.out.at_.2 0 _ rfl; have f_0 := blk_frozen P.out.bx 0; have x_1 := P.out.at_.2 1 _ rfl; have f_1 := blk_frozen P.out.bx 1; have x_2 := P.out.at_.2 2 _ rfl; have f_2 := blk_frozen P.out.bx 2; have x_3 := P.out.at_.2 3 _ rfl; have f_3 := blk_frozen P.out.bx 3; have x_4 := P.out.at_.2 4 _ rfl; have f_4 := blk_frozen P.out.bx 4; have x_5 := P.out.at_.2 5 _ rfl; have f_5 := blk_frozen P.out.bx 5; have x_6 := P.out.at_.2 6 _ rfl; have f_6 := blk_frozen P.out.bx 6; have x_7 := P.out.at_.2 7 _ rfl; have f_7 := blk_frozen P.out.bx 7; have q_b := P.out.at_.1)
  have P2 : CS w _ b r [.int .i64 0, .slice A_0 0 c_0, .int .i64 0, .slice A_1 0 c_1, .int .i64 0, .slice A_2 0 c_2, .int .i64 0, .slice A_3 0 c_3] [(.slice A_0 0 c_0, []), (.slice A_1 0 c_1, []), (.slice A_2 0 c_2, []), (.slice A_3 0 c_3, [])] := P.out.put 6 (.int .i64 0) (.slice A_3 0 c_3) (by simp [cells4])
  clear x_0 f_0 x_1 f_1 x_2 f_2 x_3 f_3 x_4 f_4 x_5 f_5 x_6 f_6 x_7 f_7 q_b
  clear P
  have P := Aside0.mk P2
  clear P2
  generalize (World.setCell _ _ _).setCell _ _ = w3 at P ⊢
  rw [rounds_succ]
  go_wp2
  refine wp_loop_rounds 1 ?_
  have x_0 := P.out.at_.2 0 _ rfl
  have z_0 : (w3).cell? ⟨r, 0, none⟩ = some (.int .i64 0) := (blk_cell P.out.rx 0).trans rfl
  have f_0 := blk_frozen P.out.rx 0
  have x_1 := P.out.at_.2 1 _ rfl
  have z_1 : (w3).cell? ⟨r, 1, none⟩ = some (.slice none 0 0) := (blk_cell P.out.rx 1).trans rfl
  have f_1 := blk_frozen P.out.rx 1
  have x_2 := P.out.at_.2 2 _ rfl
  have z_2 : (w3).cell? ⟨r, 2, none⟩ = some (.int .i64 0) := (blk_cell P.out.rx 2).trans rfl
  have f_2 := blk_frozen P.out.rx 2
  have x_3 := P.out.at_.2 3 _ rfl
  have z_3 : (w3).cell? ⟨r, 3, none⟩ = some (.slice none 0 0) := (blk_cell P.out.rx 3).trans rfl
  have f_3 := blk_frozen P.out.rx 3
  have x_4 := P.out.at_.2 4 _ rfl
  have z_4 : (w3).cell? ⟨r, 4, none⟩ = some (.int .i64 0) := (blk_cell P.out.rx 4).trans rfl
  have f_4 := blk_frozen P.out.rx 4
  have x_5 := P.out.at_.2 5 _ rfl
  have z_5 : (w3).cell? ⟨r, 5, none⟩ = some (.slice none 0 0) := (blk_cell P.out.rx 5).trans rfl
  have f_5 := blk_frozen P.out.rx 5
  have x_6 := P.out.at_.2 6 _ rfl
  have z_6 : (w3).cell? ⟨r, 6, none⟩ = some (.int .i64 0) := (blk_cell P.out.rx 6).trans rfl
  have f_6 := blk_frozen P.out.rx 6
  have x_7 := P.out.at_.2 7 _ rfl
  have z_7 : (w3).cell? ⟨r, 7, none⟩ = some (.slice none 0 0) := (blk_cell P.out.rx 7).trans rfl
  have f_7 := blk_frozen P.out.rx 7
  rw [rounds_succ]
  go_wp2
  obtain ⟨d1, d2, d3⟩ := P.out.done (.int .i64 0) (.slice A_0 0 c_0) (.int .i64 0) (.slice A_1 0 c_1) (.int .i64 0) (.slice A_2 0 c_2) (.int .i64 0) (.slice A_3 0 c_3) _ rfl
  exact bodyPost_ret (results_ct rfl _ _ r 54 _ (0, 0) _ rfl d1 hu4 rfl (by kernel_rfl)) rfl ⟨_, _, _, _, rfl, d2, d3⟩
end Go.Proofs.Ytlghmadoogblcaa.CountWalk
end
section
namespace Go.Proofs.Ytlghmadoogblcaa.Pile
open Go Go.RowKit Go.Proofs.YtlghmadoogblcaaW.PrintWords Go.Proofs.YtlghmadoogblcaaW.PrintLast Go.Proofs.YtlghmadoogblcaaW.PrintMore Go.Proofs.Ytlghmadoogblcaa.PS Go.Proofs.Ytlghmadoogblcaa.Bx Go.Proofs.Ytlghmadoogblcaa.Book Go.Proofs.Ytlghmadoogblcaa.Lent
set_option linter.unusedVariables false
set_option linter.unusedSimpArgs false
theorem bit_C_ {w : World} {base : Nat} {v : Value} {xs : List Bool} (h : w.ownsRow base 4 1 v xs.length (bools xs)) : ∃ A c, v = .slice A xs.length c ∧ xs.length ≤ c ∧ Kd.C Kd.bool w A xs.length xs :=
  Kd.R_reads (Kd.R_of_own (h1 := fun _ => rfl) (ok := fun _ => True) h (fun _ _ => trivial))
def turnTo (y : Nat) (bs : List Bool) : List Bool := (bs.take y).map (!·) ++ bs.drop y
theorem turnTo_len (y : Nat) (bs : List Bool) : (turnTo y bs).length = bs.length := by simp [turnTo]; omega
theorem turnTo_all (bs : List Bool) : turnTo bs.length bs = bs.map (!·) := by simp [turnTo]
theorem turnTo_get {y : Nat} {bs : List Bool} (h : y < bs.length) : (turnTo y bs)[y]? = some bs[y] := by
  unfold turnTo
  rw [List.getElem?_append_right (by simp; omega)]
  simp [show min y bs.length = y by omega]
theorem turnTo_set {y : Nat} {bs : List Bool} (h : y < bs.length) : (turnTo y bs).set y (!bs[y]) = turnTo (y + 1) bs := by
  apply List.ext_getElem?
  intro i
  unfold turnTo
  rw [List.getElem?_set]
  by_cases e : y = i
  · subst e
    rw [if_pos rfl, if_pos (by simp; omega), List.getElem?_append_left (by simp; omega)]
    simp [h]
  · rw [if_neg e]
    by_cases h2 : i < y
    · rw [List.getElem?_append_left (by simp; omega), List.getElem?_append_left (by simp; omega)]
      simp [h2, show i < y + 1 by omega]
    · rw [List.getElem?_append_right (by simp; omega), List.getElem?_append_right (by simp; omega)]
      simp [show min y bs.length = y by omega, show min (y + 1) bs.length = y + 1 by omega]
      congr 1
      omega
section
variable {w W W' : World} {b g cp : Nat} {gv wv : Value} {Z : List Ans} {ix : List Nat} {R : List (Value × List Int)} {T : List (Nat × List Value)} {L : List (Nat × Nat × List Int)} {l l' : List Bool}
theorem Pile0.bits {v : Value} (hb : Below w.heap.size w W) (ho : W.ownsRow w.heap.size 4 1 v l.length (bools l)) : Pile0 w W [] [] [(v, l)] :=
  ⟨hb, fun p hp => by simp at hp, fun j l h => by simp at h, fun i j l m _ h => by simp at h, fun j p h => by
    match j, h with
    | 0, h => obtain rfl := Option.some.inj h; exact ho, fun i j p q _ h => by simp at h⟩
theorem c_reads_bit {A : Option Addr} {n : Nat} {xs : List Bool} (h : Kd.C Kd.bool w A n xs) : ReadsOf Value.bool false w A n xs := by
  obtain ⟨h1, h2, h3⟩ := h
  refine ⟨h1, h2, fun hn => ?_⟩
  obtain ⟨ad, e, hc⟩ := h3 hn
  refine ⟨ad, e, fun j hj => ?_⟩
  obtain ⟨c, hl, hk, hcc⟩ := hc j (xs.getD j false) (by rw [List.getD_eq_getElem?_getD, List.getElem?_eq_getElem (by omega)]; rfl)
  have hk' : c = [.bool (xs.getD j false)] := hk
  subst hk'
  have := hcc 0 _ rfl
  have hs : Kd.bool.sz = 1 := rfl
  rwa [hs, Nat.mul_one, Nat.add_zero] at this
theorem Pile0.bit1 {v : Value} (h : Pile0 w W T L [(v, l)]) : W.ownsRow w.heap.size 4 1 v l.length (bools l) := h.bit 0 _ rfl
theorem bit_take {n m c : Nat} {A : Option Addr} {bs cs : List Bool} (h : W.ownsRow n 4 1 (.slice A m c) (bs ++ cs).length (bools (bs ++ cs))) : Kd.C Kd.bool W A bs.length bs := by
  obtain ⟨A', c', e, _, hC⟩ := bit_C_ h
  cases e
  have h2 := Kd.C_take (m := bs.length) hC (by simp)
  rwa [List.take_left] at h2
theorem bit_cell {n m c : Nat} (h : W.ownsRow n 4 1 (.slice (some ⟨g, 0, none⟩) m c) l.length (bools l)) (j : Nat) (x : Bool) (e : l[j]? = some x) : W.cell? ⟨g, j, none⟩ = some (.bool x) := by
  have h2 := h.cells (g := g) rfl j (.bool x) (by rw [bools, List.getElem?_map, e]; rfl)
  have e2 : (⟨g, 0, none⟩ : Addr).add j = ⟨g, j, none⟩ := by cases j <;> simp [Addr.add]
  rwa [e2] at h2
theorem bit_frozen {n m c n2 : Nat} {xs : List Value} (h : W.ownsRow n 4 1 (.slice (some ⟨g, 0, none⟩) m c) n2 xs) (j : Nat) : W.frozen? ⟨g, j, none⟩ = false := by
  rcases h.2 with ⟨h', _⟩ | ⟨g', cap', cur, h', _, hh, _⟩
  · cases h'
  · have : g = g' := by injection h' with h'; injection h' with h'; injection h' with h'
    subst this
    simp [World.frozen?, hh]
theorem bit_store {n m c n2 : Nat} (e2 : n2 = m) (h : W.ownsRow n 4 1 (.slice (some ⟨g, 0, none⟩) m c) n2 (bools l)) (i : Int) (x : Bool) :
    (W.setCell ⟨g, i.toNat, none⟩ (.bool x)).ownsRow n 4 1 (.slice (some ⟨g, 0, none⟩) m c) n2 (bools (l.set i.toNat x)) ∧ W.grownBy (W.setCell ⟨g, i.toNat, none⟩ (.bool x)) (some g) := by
  subst e2
  have hs := h.stored i.toNat (.bool x)
  have he : (bools l).set i.toNat (.bool x) = bools (l.set i.toNat x) := by simp [bools, List.map_set]
  rwa [he] at hs
theorem Pile.bitset {v : Value} (hv : v.ownBlock = some g) (h : Pile w W b gv wv Z ix R T L [(v, l)]) (hg : W.grownBy W' (some g)) (ho : W'.ownsRow w.heap.size 4 1 v l'.length (bools l')) :
    Pile w W' b gv wv Z ix R T L [(v, l')] := by
  have ob := own_block h.p0.bit1 g hv
  obtain ⟨hw, cs, hc⟩ := ob
  have far : ∀ {v : Value} {base n : Nat} {e : TypeId} {xs : List Value}, W.ownsRow base e 1 v n xs → 4 ≠ e → W'.ownsRow base e 1 v n xs := fun {v base n e xs} hr hne => by
    refine own_other hr hg ?_
    cases hv : v.ownBlock with
    | none => exact .inl rfl
    | some k =>
      right
      intro ek
      cases ek
      obtain ⟨cs', hc'⟩ := own_typed hr g hv
      rw [hc] at hc'
      injection hc' with hc'
      injection hc' with _ hc'
      exact hne hc'
  have nb : b ≠ g := by
    rintro rfl
    have := h.book.hb
    rw [this] at hc
    injection hc with hc
    injection hc with _ hc
    exact absurd hc (by decide)
  have f : ∀ {v : Value} {X : List (List Value)}, (Kd.raw 2).R 31 W w.heap.size (fun _ => True) v X → (Kd.raw 2).R 31 W' w.heap.size (fun _ => True) v X := fun hR =>
    Kd.R_mono (Kd.R_grown (Kd.R_types hR hc (by intro q hq; simp [Kd.raw] at hq; subst hq; decide)) hg (fun k hk e => hk.2 (Option.some.inj e))) (fun _ _ => trivial)
  have hbe := h.p0.be.grown hg h.p0.be.size (fun k hk => by cases hk; exact hw)
  refine ⟨⟨hbe, fun p hp => blk_grown (h.p0.box p hp) hg ?_, fun j l hj => far (h.p0.lent j l hj) (by decide), h.p0.lap, fun j p hj => ?_, h.p0.bd⟩, ⟨blk_grown h.book.hb hg (fun e => nb (Option.some.inj e)), f h.book.rg, f h.book.rh, h.book.ap, hbe, h.book.ge⟩, fun j p hp => far (h.own j p hp) (by decide), h.ap, h.bx, h.la, h.zr⟩
  · intro e
    have e := Option.some.inj e
    have h1 := h.p0.box p hp
    rw [e, hc] at h1
    injection h1 with h1
    injection h1 with _ h1
    exact absurd h1 (by decide)
  · match j, hj with
    | 0, hj => obtain rfl := Option.some.inj hj; exact ho
end
end Go.Proofs.Ytlghmadoogblcaa.Pile
end
section
namespace Go.Proofs.Ytlghmadoogblcaa.RefCount
open Go Go.RowKit Go.Proofs.YtlghmadoogblcaaW.PrintWords Go.Proofs.YtlghmadoogblcaaW.PrintLast Go.Proofs.YtlghmadoogblcaaW.PrintMore Go.Proofs.Ytlghmadoogblcaa.PW Go.Proofs.Ytlghmadoogblcaa.Book Go.Proofs.Ytlghmadoogblcaa.Lent Go.Proofs.Ytlghmadoogblcaa.Pile Go.Proofs.Ytlghmadoogblcaa.Rows4 Go.Proofs.Ytlghmadoogblcaa.CountWalk
set_option linter.unusedVariables false
set_option linter.unusedSimpArgs false
def digit (bt : Nat → Nat → Bool) (j k : Nat) (i : Nat) : Bool := decide ((cntTo bt i j / 2 ^ k) % 2 = 1)
def digits (bt : Nat → Nat → Bool) (m j k : Nat) : List Bool := RefPlain.doneTo m m (digit bt j k) (fun _ => false)
theorem digits_len {bt : Nat → Nat → Bool} {m j k : Nat} : (digits bt m j k).length = m := RefPlain.doneTo_len _ _ _ _
theorem bit_C' {W : World} {base n m c : Nat} {A : Option Addr} {xs : List Bool} (e2 : xs.length = n) (h : W.ownsRow base 4 1 (.slice A m c) n (bools xs)) : Kd.C Kd.bool W A xs.length xs := by
  subst e2
  obtain ⟨A', c', e, _, hC⟩ := bit_C_ h
  cases e
  exact hC
set_option maxHeartbeats 8000000 in
set_option maxRecDepth 100000 in
theorem count_rows (k : Nat) (A0 : Option Addr) (c0 : Nat) (l : List S31) (m : Nat) (bt : Nat → Nat → Bool) (V0 V1 V2 V3 : List Int) (w : World) (hr0 : Kd.C k31 w A0 l.length l) (hc0 : l.length ≤ c0) (h15 : l.length ≤ 15) (hpos : 0 < l.length) (hfit : PF.vivariumref02_fits.f k l = some 0)
    (hn : (l.getD 0 z31).f0 = m) (hm : m ≤ 65538) (hbit : ∀ j i : Nat, j < l.length → i < m → PB.vivariumref02_bit.f (l.getD j z31).f0 (l.getD j z31).f1 i = some (bt j i))
    (e0 : PB.vivariumref02_Row.f k (digits bt m l.length 0) = some ((m : Int), V0)) (e1 : PB.vivariumref02_Row.f k (digits bt m l.length 1) = some ((m : Int), V1)) (e2 : PB.vivariumref02_Row.f k (digits bt m l.length 2) = some ((m : Int), V2)) (e3 : PB.vivariumref02_Row.f k (digits bt m l.length 3) = some ((m : Int), V3)) :
    Calls Try.prog 32 #[.slice A0 l.length c0] w fun e w' => ∃ v0 v1 v2 v3, e = .returned (.tuple #[.agg (cells4 (m : Int) v0 v1 v2 v3).toArray, .int .i64 0]) ∧ Rws w.heap.size w' ((⟨V0, V1, V2, V3⟩ : Q4).rows v0 v1 v2 v3) ∧ Below w.heap.size w w' := by
  have HR := Aside0.mk hr0; have HC0 := Aside0.mk hc0; have HF := Aside0.mk hfit; have HN := Aside0.mk hn; have HB := Aside0.mk hbit; have HE0 := Aside0.mk e0; have HE1 := Aside0.mk e1; have HE2 := Aside0.mk e2; have HE3 := Aside0.mk e3
  have hu := Try.underlying31
  have hu4 := Try.underlying54
  clear hr0 hfit hn hbit e0 e1 e2 e3
  have d15 : decide ((l.length : Int) > 15) = false := decide_eq_false (by omega)
  have dp : decide ((l.length : Int) > 0) = true := decide_eq_true (by omega)
  go_enter Try.func32, Try.ntmps32
  go_wp2_with (first
    | ((with_reducible refine gate_dst (N := 2) rfl ?_); refine box_event ?hg2 (N := 2) ?hd2 (cs := #[.int .i64 0, .slice none 0 0, .int .i64 0, .slice none 0 0, .int .i64 0, .slice none 0 0, .int .i64 0, .slice none 0 0]) (t := 54) ?hr2 ?_; (case hd2 => rfl); (case hg2 => rfl); (case hr2 => first | (go_simp; done) | (go_simp; rfl)); intro r gr W1 x1 hb1; have hgr : w.heap.size ≤ r := (by omega); clear gr)
    | ((with_reducible refine gate_dst (N := 4) rfl ?_); refine box_event ?hg4 (N := 4) ?hd4 (cs := #[.int .i64 0, .slice none 0 0, .int .i64 0, .slice none 0 0, .int .i64 0, .slice none 0 0, .int .i64 0, .slice none 0 0]) (t := 54) ?hr4 ?_; (case hd4 => rfl); (case hg4 => rfl); (case hr4 => first | (go_simp; done) | (go_simp; rfl)); intro b gb W2 x2 hb2; have P2 : CS w W2 b r (cells4 0 (.slice none 0 0) (.slice none 0 0) (.slice none 0 0) (.slice none 0 0)) [] := ⟨chain_ hb1 hb2, x2, blk_below x1 hb2, (by have := hb1.size; omega), (by omega), (by have := blk_lt x1; omega), Rws.nil⟩; have P := Aside0.mk P2; clear P2 x1 x2 hb1 hb2 gb)
    | (go_at_call 54; have P1 := P.out; with_reducible refine (PF.vivariumref02_fits.calls k A0 c0 l 0 _ (Kd.C_below HR.out P1.be) HC0.out HF.out).mono ?_; rintro er_ v1 ⟨rfl, hb⟩; have P2 := P1.on hb; clear hb P P1; have P := Aside0.mk P2; clear P2; obtain ⟨ad, A1, cc, e_, z0, -, -, -⟩ := at_row HR.out P.out.be 0 (by omega) (by omega); subst e_; have z1 : v1.cell? ad = some (.int .i64 (m : Int)) := (by have h_ := z0; rw [show rd_T31 l 0 = l.getD 0 z31 from rfl, HN.out] at h_; simpa [Addr.add] using h_); clear z0)
    | ((with_reducible refine gate_dst (N := 31) rfl ?_); refine Kd.R_make (Kd.int .i64) _ 3 rfl (N := 31) rfl 74 _ _ rfl (m : Int) rfl rfl Try.underlying74 (.int .i64 0) 8 (by kernel_rfl) rfl (by decide) (by omega) (0 : Int) (ok := fun _ => True) (okp := fun _ => True) rfl (fun _ hk => hk) trivial (by omega) (by omega) (Below.refl _ _) (Nat.le_refl _) ?_; intro v_ v2 hR hb hg_ hn_; clear hg_ hn_ z1; rw [Int.toNat_natCast] at hR; have ho_ := own_less (Kd.own_of_R hR) P.out.be.size; obtain ⟨A_s, c_s, e_, -, -⟩ := Kd.R_reads hR; rw [List.length_replicate] at e_; subst e_; rw [List.length_replicate, mp_zero] at ho_; have HO := Aside0.mk ho_; have P2 := P.out.on hb; clear hb hR ho_ P; have P := Aside0.mk P2; clear P2))
  go_loopg [8] l.length (fun q_ s8 wr => ∃ j : Int, s8 = .int .i64 j ∧ Aside0 (0 ≤ j ∧ j ≤ l.length ∧ (q_ : Int) = l.length - j) ∧ Aside0 (CS w wr b r (cells4 0 (.slice none 0 0) (.slice none 0 0) (.slice none 0 0) (.slice none 0 0)) []) ∧ Aside0 (wr.ownsRow w.heap.size 3 1 (.slice A_s m c_s) m (nums .i64 (mp m fun i => (cntTo bt i j.toNat : Int)))))
  case atStart => exact ⟨0, rfl, ⟨by omega, by omega, by omega⟩, P, HO⟩
  case round =>
    clear P HO
    obtain ⟨j, rfl, HJ, P, HO⟩ := hrel
    by_cases qj : j < l.length
    · have pj : 0 ≤ j := HJ.out.1
      go_wp2
      go_loopg [9] m (fun q2_ s9 wx => ∃ y : Int, s9 = .int .i64 y ∧ Aside0 (0 ≤ y ∧ y ≤ m ∧ (q2_ : Int) = m - y) ∧ Aside0 (CS w wx b r (cells4 0 (.slice none 0 0) (.slice none 0 0) (.slice none 0 0) (.slice none 0 0)) []) ∧ Aside0 (wx.ownsRow w.heap.size 3 1 (.slice A_s m c_s) m (nums .i64 (mp m fun i => if i < y.toNat then (cntTo bt i (j.toNat + 1) : Int) else (cntTo bt i j.toNat : Int)))))
      case atStart => exact ⟨0, rfl, ⟨by omega, by omega, by omega⟩, P, HO⟩
      case round =>
        clear P HO
        obtain ⟨y, rfl, HY, P, HO⟩ := hrel
        by_cases qy : y < m
        · have py : 0 ≤ y := HY.out.1
          obtain ⟨g, e_⟩ := own_some' HO.out (by omega)
          subst e_
          obtain ⟨ad', Aj, cj, e_, y0_, y1_, hle, hCj⟩ := at_row HR.out P.out.be j pj qj
          cases e_
          have hbt := HB.out j.toNat y.toNat (by omega) (by omega)
          rw [Int.toNat_of_nonneg py, show l.getD j.toNat z31 = rd_T31 l j from rfl] at hbt
          have HBT := Aside0.mk hbt
          have HCJ := Aside0.mk hCj
          have HLE := Aside0.mk hle
          obtain ⟨bv, hbv⟩ : ∃ q, bt j.toNat y.toNat = q := ⟨_, rfl⟩
          have HBV := Aside0.mk hbv
          rw [hbv] at HBT
          obtain ⟨N_, W_⟩ := rd_T31 l j
          clear hbt hbv hCj hle
          have c4 := cntTo_le bt y.toNat j.toNat
          obtain ⟨cv, hcv⟩ : ∃ q : Nat, cntTo bt y.toNat j.toNat = q := ⟨_, rfl⟩
          have HCV := Aside0.mk hcv
          rw [hcv] at c4
          clear hcv
          cases bv with
          | true =>
            go_wp2_with (go_at_call 52; have P1 := P.out; with_reducible refine (PB.vivariumref02_bit.calls _ _ _ _ y true _ (Kd.C_below HCJ.out P1.be) HLE.out HBT.out).mono ?_; rintro er_ wz ⟨rfl, hb⟩; have P2 := P1.on hb; have HO2 := Aside0.mk (pw_own_below HO.out hb); clear HO hb P1 P y0_ y1_; have P := Aside0.mk P2; clear P2; have sc_ : wz.cell? ⟨g, y.toNat, none⟩ = some (.int .i64 (cv : Int)) := (own_cell HO2.out y.toNat _ (by rw [nums, List.getElem?_map, mp_get _ (by omega)]; simp [HCV.out])); have sf_ := own_free HO2.out y.toNat)
            go_roundg (m - (y + 1).toNat)
            case measure => go_light; have := HY.out; omega
            case rel =>
              go_light
              obtain ⟨hw_, cc_, hb_⟩ := own_block HO2.out g rfl
              refine ⟨y + 1, by have hw : wrap64 (y + 1) = y + 1 := (by unfold wrap64; omega); first | rfl | (rw [hw]; done) | (simp [hw]; done), ⟨by omega, by omega, by omega⟩, ⟨P.out.other hb_ hw_ (by decide) (by decide)⟩, ⟨?_⟩⟩
              have h2 := own_put_int rfl HO2.out y.toNat ((cv : Int) + 1)
              rw [mp_set] at h2
              rw [mp_congr (g := fun i => if i < (y + 1).toNat then (cntTo bt i (j.toNat + 1) : Int) else (cntTo bt i j.toNat : Int))] at h2
              · exact h2
              · intro i hi
                by_cases e : i = y.toNat
                · subst e
                  rw [if_pos rfl, if_pos (by omega)]
                  unfold cntTo
                  rw [HCV.out, HBV.out]
                  simp
                · rw [if_neg e]
                  by_cases h3 : i < y.toNat
                  · rw [if_pos h3, if_pos (by omega)]
                  · rw [if_neg h3, if_neg (by omega)]
          | false =>
            go_wp2_with (go_at_call 52; have P1 := P.out; with_reducible refine (PB.vivariumref02_bit.calls _ _ _ _ y false _ (Kd.C_below HCJ.out P1.be) HLE.out HBT.out).mono ?_; rintro er_ wz ⟨rfl, hb⟩; have P2 := P1.on hb; have HO2 := Aside0.mk (pw_own_below HO.out hb); clear HO hb P1 P y0_ y1_; have P := Aside0.mk P2; clear P2)
            go_roundg (m - (y + 1).toNat)
            case measure => go_light; have := HY.out; omega
            case rel =>
              go_light
              refine ⟨y + 1, by have hw : wrap64 (y + 1) = y + 1 := (by unfold wrap64; omega); first | rfl | (rw [hw]; done) | (simp [hw]; done), ⟨by omega, by omega, by omega⟩, P, ⟨?_⟩⟩
              have h2 := HO2.out
              rw [mp_congr (g := fun i => if i < (y + 1).toNat then (cntTo bt i (j.toNat + 1) : Int) else (cntTo bt i j.toNat : Int))] at h2
              · exact h2
              · intro i hi
                by_cases e : i = y.toNat
                · subst e
                  rw [if_neg (by omega), if_pos (by omega), show cntTo bt y.toNat (j.toNat + 1) = cntTo bt y.toNat j.toNat + (if bt j.toNat y.toNat then 1 else 0) from rfl, HBV.out]
                  simp
                · by_cases h3 : i < y.toNat
                  · rw [if_pos h3, if_pos (by omega)]
                  · rw [if_neg h3, if_neg (by omega)]
        · have hy : y = m := by have := HY.out; omega
          subst hy
          go_wp2
          go_roundg (l.length - (j + 1).toNat)
          case measure => go_light; have := HJ.out; omega
          case rel =>
            go_light
            refine ⟨j + 1, by have hw : wrap64 (j + 1) = j + 1 := (by unfold wrap64; omega); first | rfl | (rw [hw]; done) | (simp [hw]; done), ⟨by omega, by omega, by omega⟩, P, ⟨?_⟩⟩
            have h2 := HO.out
            rw [mp_congr (g := fun i => (cntTo bt i (j + 1).toNat : Int))] at h2
            · exact h2
            · intro i hi
              rw [if_pos (by omega), show (j + 1).toNat = j.toNat + 1 by omega]
    · have hj : j = l.length := by have := HJ.out; omega
      subst hj
      go_wp2
      refine wp_loop_rounds 5 ?_
      replace HO := Aside0.mk (show wr.ownsRow w.heap.size 3 1 (.slice A_s m c_s) m (nums .i64 (mp m fun i => ((cntTo bt i l.length / 2 ^ 0 : Nat) : Int))) from by have h2 := HO.out; rw [Int.toNat_natCast] at h2; simpa using h2)
      rw [rounds_succ]
      go_wp2_with ((with_reducible refine gate_dst (N := 60) rfl ?_); refine Kd.R_make Kd.bool _ 4 rfl (N := 60) rfl 35 _ _ rfl (m : Int) rfl rfl Try.underlying35 (.bool false) 1 (by kernel_rfl) rfl (by decide) (by omega) false (ok := fun _ => True) (okp := fun _ => True) rfl (fun _ hk => hk) trivial (by omega) (by omega) (Below.refl _ _) (Nat.le_refl _) ?_; intro v_ wb0 hR hb hg_ hn_; clear hg_ hn_; rw [Int.toNat_natCast] at hR; have ho_ := own_less (own_of_R_bit hR) P.out.be.size; obtain ⟨A_b0, c_b0, e_, -, -⟩ := Kd.R_reads hR; rw [List.length_replicate] at e_; subst e_; rw [List.length_replicate, ← RefPlain.doneTo_zero m (digit bt l.length 0)] at ho_; have HV := Aside0.mk ho_; have P2 := P.out.on hb; have HO2 := Aside0.mk (pw_own_below HO.out hb); clear hb hR ho_ P HO; have P := Aside0.mk P2; have HO := HO2; clear P2 HO2)
      go_loopg [12] m (fun q2_ s12 wx => ∃ y : Int, s12 = .int .i64 y ∧ Aside0 (0 ≤ y ∧ y ≤ m ∧ (q2_ : Int) = m - y) ∧ Aside0 (CS w wx b r [.int .i64 0, .slice none 0 0, .int .i64 0, .slice none 0 0, .int .i64 0, .slice none 0 0, .int .i64 0, .slice none 0 0] []) ∧ Aside0 (wx.ownsRow w.heap.size 3 1 (.slice A_s m c_s) m (nums .i64 (mp m fun i => if i < y.toNat then ((cntTo bt i l.length / 2 ^ 1 : Nat) : Int) else ((cntTo bt i l.length / 2 ^ 0 : Nat) : Int)))) ∧ Aside0 (wx.ownsRow w.heap.size 4 1 (.slice A_b0 m c_b0) m (bools (RefPlain.doneTo m y.toNat (digit bt l.length 0) (fun _ => false)))))
      case atStart => exact ⟨0, rfl, ⟨by omega, by omega, by omega⟩, P, HO, HV⟩
      case round =>
        clear P HO HV
        obtain ⟨y, rfl, HY, P, HO, HV⟩ := hrel
        by_cases qy : y < m
        · have py : 0 ≤ y := HY.out.1
          obtain ⟨g, e_⟩ := own_some' HO.out (by omega)
          subst e_
          obtain ⟨gb, e_⟩ := own_some' HV.out (by omega)
          subst e_
          have c4 := cntTo_le bt y.toNat l.length
          have c5 : cntTo bt y.toNat l.length / 2 ^ 0 ≤ cntTo bt y.toNat l.length := Nat.div_le_self _ _
          obtain ⟨cv, hcv⟩ : ∃ q : Nat, cntTo bt y.toNat l.length / 2 ^ 0 = q := ⟨_, rfl⟩
          have HCV := Aside0.mk hcv
          rw [hcv] at c5
          have c6 : cv ≤ 15 := by omega
          clear hcv c4 c5
          have sc_ : wr.cell? ⟨g, y.toNat, none⟩ = some (.int .i64 (cv : Int)) := own_cell HO.out y.toNat _ (by rw [nums, List.getElem?_map, mp_get _ (by omega)]; simp [HCV.out])
          have sf_ := own_free HO.out y.toNat
          have bc_ : wr.cell? ⟨gb, y.toNat, none⟩ = some (.bool false) := own_cell HV.out y.toNat _ (by rw [bools, List.getElem?_map, RefPlain.doneTo_get _ _ (by omega)]; simp)
          have bf_ := own_free HV.out y.toNat
          have ne_ : g ≠ gb := by
            rintro rfl
            obtain ⟨_, _, h1_⟩ := own_block HO.out g rfl
            obtain ⟨_, _, h2_⟩ := own_block HV.out g rfl
            rw [h1_] at h2_
            injection h2_ with h2_
            injection h2_ with _ h2_
            exact absurd h2_ (by decide)
          have ne2_ := ne_.symm
          go_wp2
          go_roundg (m - (y + 1).toNat)
          case measure => go_light; have := HY.out; omega
          case rel =>
            go_light
            obtain ⟨hwg, _, hbg⟩ := own_block HO.out g rfl
            obtain ⟨hwb, _, hbb⟩ := own_block HV.out gb rfl
            have P1 := P.out.other (i := y.toNat) (u := .bool ((cv : Int) % 2 == 1)) hbb hwb (by decide) (by decide)
            have hbg2 := (Below.heap_setCell wr ⟨gb, y.toNat, none⟩ (.bool ((cv : Int) % 2 == 1)) g ne_).trans hbg
            have h1 := own_put_int rfl (own_set_other (i := y.toNat) (u := .bool ((cv : Int) % 2 == 1)) HO.out hbb (by decide)) y.toNat ((cv : Int) / 2)
            have h2 := own_set_other (i := y.toNat) (u := .int .i64 ((cv : Int) / 2)) (own_put_bool rfl HV.out y.toNat ((cv : Int) % 2 == 1)) hbg2 (by decide)
            refine ⟨y + 1, rfl, ⟨by omega, by omega, by omega⟩, ⟨P1.other hbg2 hwg (by decide) (by decide)⟩, ⟨?_⟩, ⟨?_⟩⟩
            · rw [mp_set] at h1
              rw [mp_congr (g := fun i => if i < (y + 1).toNat then ((cntTo bt i l.length / 2 ^ 1 : Nat) : Int) else ((cntTo bt i l.length / 2 ^ 0 : Nat) : Int))] at h1
              · exact h1
              · intro i hi
                by_cases e : i = y.toNat
                · subst e
                  rw [if_pos rfl, if_pos (by omega), show cntTo bt y.toNat l.length / 2 ^ 1 = cntTo bt y.toNat l.length / 2 ^ 0 / 2 by rw [Nat.div_div_eq_div_mul], HCV.out]
                  omega
                · rw [if_neg e]
                  by_cases h3 : i < y.toNat
                  · rw [if_pos h3, if_pos (by omega)]
                  · rw [if_neg h3, if_neg (by omega)]
            · have e3 : ((cv : Int) % 2 == 1) = digit bt l.length 0 y.toNat := by unfold digit; rw [HCV.out, Bool.eq_iff_iff]; simp; omega
              have e4 : (RefPlain.doneTo m y.toNat (digit bt l.length 0) (fun _ => false)).set y.toNat ((cv : Int) % 2 == 1) = RefPlain.doneTo m (y.toNat + 1) (digit bt l.length 0) (fun _ => false) := by rw [e3]; exact RefPlain.doneTo_set _ _ (by omega)
              rw [e4] at h2
              rwa [show (y + 1).toNat = y.toNat + 1 by omega]
        · have hy : y = m := by have := HY.out; omega
          have h1 := HO.out
          have h2 := HV.out
          rw [hy, Int.toNat_natCast] at h1 h2
          rw [mp_congr (g := fun i => ((cntTo bt i l.length / 2 ^ 1 : Nat) : Int)) (fun i hi => by rw [if_pos hi])] at h1
          have hd : digits bt m l.length 0 = RefPlain.doneTo m m (digit bt l.length 0) (fun _ => false) := rfl
          rw [← hd] at h2
          clear HO HV hd
          have HO := Aside0.mk h1
          have HV := Aside0.mk h2
          clear h1 h2
          subst hy
          go_wp2_with (go_at_call 48; have P1 := P.out; have h_ := PB.vivariumref02_Row.calls k A_b0 c_b0 (digits bt m l.length 0) (m : Int) V0 wr (bit_C' digits_len HV.out) (by rw [digits_len]; exact own_le HV.out) HE0.out; rw [digits_len] at h_; with_reducible refine h_.mono ?_; clear h_; rintro er_ u0 ⟨t_, rfl, hR, hb⟩; obtain ⟨A_0, c_0, e_, -, -⟩ := Kd.R_reads hR; subst e_; have P2 := P1.told hb hR; have HO2 := Aside0.mk (pw_own_below HO.out hb); clear hb hR P P1 HO HV; have P := Aside0.mk P2; have HO := HO2; clear P2 HO2; have x_0 := P.out.at_.2 0 _ rfl; have f_0 := blk_frozen P.out.bx 0; have x_1 := P.out.at_.2 1 _ rfl; have f_1 := blk_frozen P.out.bx 1; have x_2 := P.out.at_.2 2 _ rfl; have f_2 := blk_frozen P.out.bx 2; have x_3 := P.out.at_.2 3 _ rfl; have f_3 := blk_frozen P.out.bx 3; have x_4 := P.out.at_.2 4 _ rfl; have f_4 := blk_frozen P.out.bx 4; have x_5 := P.out.at_.2 5 _ rfl; have f_5 := blk_frozen P.out.bx 5; have x_6 := P.out.at_.2 6 _ rfl; have f_6 := blk_frozen P.out.bx 6; have x_7 := P.out.at_.2 7 _ rfl; have f_7 := blk_frozen P.out.bx 7)
          have hb_ := P.out.bx
          have P2 : CS w _ b r [.int .i64 (m : Int), .slice A_0 V0.length c_0, .int .i64 0, .slice none 0 0, .int .i64 0, .slice none 0 0, .int .i64 0, .slice none 0 0] [(.slice A_0 V0.length c_0, V0)] := P.out.put 0 (.int .i64 (m : Int)) (.slice A_0 V0.length c_0) (by simp [cells4])
          have HO2 := Aside0.mk (own_set_other (i := 1) (u := .slice A_0 V0.length c_0) (own_set_other (i := 0) (u := .int .i64 (m : Int)) HO.out hb_ (by decide)) (blk_put hb_ 0 (.int .i64 (m : Int)) rfl) (by decide))
          clear x_0 f_0 x_1 f_1 x_2 f_2 x_3 f_3 x_4 f_4 x_5 f_5 x_6 f_6 x_7 f_7 hb_ P HO
          have P := Aside0.mk P2
          have HO := HO2
          clear P2 HO2
          generalize (World.setCell _ _ _).setCell _ _ = w0 at P HO ⊢
          rw [rounds_succ]
          go_wp2_with ((with_reducible refine gate_dst (N := 60) rfl ?_); refine Kd.R_make Kd.bool _ 4 rfl (N := 60) rfl 35 _ _ rfl (m : Int) rfl rfl Try.underlying35 (.bool false) 1 (by kernel_rfl) rfl (by decide) (by omega) false (ok := fun _ => True) (okp := fun _ => True) rfl (fun _ hk => hk) trivial (by omega) (by omega) (Below.refl _ _) (Nat.le_refl _) ?_; intro v_ wb1 hR hb hg_ hn_; clear hg_ hn_; rw [Int.toNat_natCast] at hR; have ho_ := own_less (own_of_R_bit hR) P.out.be.size; obtain ⟨A_b1, c_b1, e_, -, -⟩ := Kd.R_reads hR; rw [List.length_replicate] at e_; subst e_; rw [List.length_replicate, ← RefPlain.doneTo_zero m (digit bt l.length 1)] at ho_; have HV := Aside0.mk ho_; have P2 := P.out.on hb; have HO2 := Aside0.mk (pw_own_below HO.out hb); clear hb hR ho_ P HO; have P := Aside0.mk P2; have HO := HO2; clear P2 HO2)
          go_loopg [12] m (fun q2_ s12 wx => ∃ y : Int, s12 = .int .i64 y ∧ Aside0 (0 ≤ y ∧ y ≤ m ∧ (q2_ : Int) = m - y) ∧ Aside0 (CS w wx b r [.int .i64 (m : Int), .slice A_0 V0.length c_0, .int .i64 0, .slice none 0 0, .int .i64 0, .slice none 0 0, .int .i64 0, .slice none 0 0] [(.slice A_0 V0.length c_0, V0)]) ∧ Aside0 (wx.ownsRow w.heap.size 3 1 (.slice A_s m c_s) m (nums .i64 (mp m fun i => if i < y.toNat then ((cntTo bt i l.length / 2 ^ 2 : Nat) : Int) else ((cntTo bt i l.length / 2 ^ 1 : Nat) : Int)))) ∧ Aside0 (wx.ownsRow w.heap.size 4 1 (.slice A_b1 m c_b1) m (bools (RefPlain.doneTo m y.toNat (digit bt l.length 1) (fun _ => false)))))
          case atStart => exact ⟨0, rfl, ⟨by omega, by omega, by omega⟩, P, HO, HV⟩
          case round =>
            clear P HO HV
            obtain ⟨y, rfl, HY, P, HO, HV⟩ := hrel
            by_cases qy : y < m
            · have py : 0 ≤ y := HY.out.1
              obtain ⟨g, e_⟩ := own_some' HO.out (by omega)
              subst e_
              obtain ⟨gb, e_⟩ := own_some' HV.out (by omega)
              subst e_
              have c4 := cntTo_le bt y.toNat l.length
              have c5 : cntTo bt y.toNat l.length / 2 ^ 1 ≤ cntTo bt y.toNat l.length := Nat.div_le_self _ _
              obtain ⟨cv, hcv⟩ : ∃ q : Nat, cntTo bt y.toNat l.length / 2 ^ 1 = q := ⟨_, rfl⟩
              have HCV := Aside0.mk hcv
              rw [hcv] at c5
              have c6 : cv ≤ 15 := by omega
              clear hcv c4 c5
              have sc_ : wr.cell? ⟨g, y.toNat, none⟩ = some (.int .i64 (cv : Int)) := own_cell HO.out y.toNat _ (by rw [nums, List.getElem?_map, mp_get _ (by omega)]; simp [HCV.out])
              have sf_ := own_free HO.out y.toNat
              have bc_ : wr.cell? ⟨gb, y.toNat, none⟩ = some (.bool false) := own_cell HV.out y.toNat _ (by rw [bools, List.getElem?_map, RefPlain.doneTo_get _ _ (by omega)]; simp)
              have bf_ := own_free HV.out y.toNat
              have ne_ : g ≠ gb := by
                rintro rfl
                obtain ⟨_, _, h1_⟩ := own_block HO.out g rfl
                obtain ⟨_, _, h2_⟩ := own_block HV.out g rfl
                rw [h1_] at h2_
                injection h2_ with h2_
                injection h2_ with _ h2_
                exact absurd h2_ (by decide)
              have ne2_ := ne_.symm
              go_wp2
              go_roundg (m - (y + 1).toNat)
              case measure => go_light; have := HY.out; omega
              case rel =>
                go_light
                obtain ⟨hwg, _, hbg⟩ := own_block HO.out g rfl
                obtain ⟨hwb, _, hbb⟩ := own_block HV.out gb rfl
                have P1 := P.out.other (i := y.toNat) (u := .bool ((cv : Int) % 2 == 1)) hbb hwb (by decide) (by decide)
                have hbg2 := (Below.heap_setCell wr ⟨gb, y.toNat, none⟩ (.bool ((cv : Int) % 2 == 1)) g ne_).trans hbg
                have h1 := own_put_int rfl (own_set_other (i := y.toNat) (u := .bool ((cv : Int) % 2 == 1)) HO.out hbb (by decide)) y.toNat ((cv : Int) / 2)
                have h2 := own_set_other (i := y.toNat) (u := .int .i64 ((cv : Int) / 2)) (own_put_bool rfl HV.out y.toNat ((cv : Int) % 2 == 1)) hbg2 (by decide)
                refine ⟨y + 1, rfl, ⟨by omega, by omega, by omega⟩, ⟨P1.other hbg2 hwg (by decide) (by decide)⟩, ⟨?_⟩, ⟨?_⟩⟩
                · rw [mp_set] at h1
                  rw [mp_congr (g := fun i => if i < (y + 1).toNat then ((cntTo bt i l.length / 2 ^ 2 : Nat) : Int) else ((cntTo bt i l.length / 2 ^ 1 : Nat) : Int))] at h1
                  · exact h1
                  · intro i hi
                    by_cases e : i = y.toNat
                    · subst e
                      rw [if_pos rfl, if_pos (by omega), show cntTo bt y.toNat l.length / 2 ^ 2 = cntTo bt y.toNat l.length / 2 ^ 1 / 2 by rw [Nat.div_div_eq_div_mul], HCV.out]
                      omega
                    · rw [if_neg e]
                      by_cases h3 : i < y.toNat
                      · rw [if_pos h3, if_pos (by omega)]
                      · rw [if_neg h3, if_neg (by omega)]
                · have e3 : ((cv : Int) % 2 == 1) = digit bt l.length 1 y.toNat := by unfold digit; rw [HCV.out, Bool.eq_iff_iff]; simp; omega
                  have e4 : (RefPlain.doneTo m y.toNat (digit bt l.length 1) (fun _ => false)).set y.toNat ((cv : Int) % 2 == 1) = RefPlain.doneTo m (y.toNat + 1) (digit bt l.length 1) (fun _ => false) := by rw [e3]; exact RefPlain.doneTo_set _ _ (by omega)
                  rw [e4] at h2
                  rwa [show (y + 1).toNat = y.toNat + 1 by omega]
            · have hy : y = m := by have := HY.out; omega
              have h1 := HO.out
              have h2 := HV.out
              rw [hy, Int.toNat_natCast] at h1 h2
              rw [mp_congr (g := fun i => ((cntTo bt i l.length / 2 ^ 2 : Nat) : Int)) (fun i hi => by rw [if_pos hi])] at h1
              have hd : digits bt m l.length 1 = RefPlain.doneTo m m (digit bt l.length 1) (fun _ => false) := rfl
              rw [← hd] at h2
              clear HO HV hd
              have HO := Aside0.mk h1
              have HV := Aside0.mk h2
              clear h1 h2
              subst hy
              go_wp2_with (go_at_call 48; have P1 := P.out; have h_ := PB.vivariumref02_Row.calls k A_b1 c_b1 (digits bt m l.length 1) (m : Int) V1 wr (bit_C' digits_len HV.out) (by rw [digits_len]; exact own_le HV.out) HE1.out; rw [digits_len] at h_; with_reducible refine h_.mono ?_; clear h_; rintro er_ u1 ⟨t_, rfl, hR, hb⟩; obtain ⟨A_1, c_1, e_, -, -⟩ := Kd.R_reads hR; subst e_; have P2 := P1.told hb hR; have HO2 := Aside0.mk (pw_own_below HO.out hb); clear hb hR P P1 HO HV; have P := Aside0.mk P2; have HO := HO2; clear P2 HO2; have x_0 := P.out.at_.2 0 _ rfl; have f_0 := blk_frozen P.out.bx 0; have x_1 := P.out.at_.2 1 _ rfl; have f_1 := blk_frozen P.out.bx 1; have x_2 := P.out.at_.2 2 _ rfl; have f_2 := blk_frozen P.out.bx 2; have x_3 := P.out.at_.2 3 _ rfl; have f_3 := blk_frozen P.out.bx 3; have x_4 := P.out.at_.2 4 _ rfl; have f_4 := blk_frozen P.out.bx 4; have x_5 := P.out.at_.2 5 _ rfl; have f_5 := blk_frozen P.out.bx 5; have x_6 := P.out.at_.2 6 _ rfl; have f_6 := blk_frozen P.out.bx 6; have x_7 := P.out.at_.2 7 _ rfl; have f_7 := blk_frozen P.out.bx 7)
              have hb_ := P.out.bx
              have P2 : CS w _ b r [.int .i64 (m : Int), .slice A_0 V0.length c_0, .int .i64 (m : Int), .slice A_1 V1.length c_1, .int .i64 0, .slice none 0 0, .int .i64 0, .slice none 0 0] [(.slice A_0 V0.length c_0, V0), (.slice A_1 V1.length c_1, V1)] := P.out.put 2 (.int .i64 (m : Int)) (.slice A_1 V1.length c_1) (by simp [cells4])
              have HO2 := Aside0.mk (own_set_other (i := 3) (u := .slice A_1 V1.length c_1) (own_set_other (i := 2) (u := .int .i64 (m : Int)) HO.out hb_ (by decide)) (blk_put hb_ 2 (.int .i64 (m : Int)) rfl) (by decide))
              clear x_0 f_0 x_1 f_1 x_2 f_2 x_3 f_3 x_4 f_4 x_5 f_5 x_6 f_6 x_7 f_7 hb_ P HO
              have P := Aside0.mk P2
              have HO := HO2
              clear P2 HO2
              generalize (World.setCell _ _ _).setCell _ _ = w1 at P HO ⊢
              rw [rounds_succ]
              go_wp2_with ((with_reducible refine gate_dst (N := 60) rfl ?_); refine Kd.R_make Kd.bool _ 4 rfl (N := 60) rfl 35 _ _ rfl (m : Int) rfl rfl Try.underlying35 (.bool false) 1 (by kernel_rfl) rfl (by decide) (by omega) false (ok := fun _ => True) (okp := fun _ => True) rfl (fun _ hk => hk) trivial (by omega) (by omega) (Below.refl _ _) (Nat.le_refl _) ?_; intro v_ wb2 hR hb hg_ hn_; clear hg_ hn_; rw [Int.toNat_natCast] at hR; have ho_ := own_less (own_of_R_bit hR) P.out.be.size; obtain ⟨A_b2, c_b2, e_, -, -⟩ := Kd.R_reads hR; rw [List.length_replicate] at e_; subst e_; rw [List.length_replicate, ← RefPlain.doneTo_zero m (digit bt l.length 2)] at ho_; have HV := Aside0.mk ho_; have P2 := P.out.on hb; have HO2 := Aside0.mk (pw_own_below HO.out hb); clear hb hR ho_ P HO; have P := Aside0.mk P2; have HO := HO2; clear P2 HO2)
              go_loopg [12] m (fun q2_ s12 wx => ∃ y : Int, s12 = .int .i64 y ∧ Aside0 (0 ≤ y ∧ y ≤ m ∧ (q2_ : Int) = m - y) ∧ Aside0 (CS w wx b r [.int .i64 (m : Int), .slice A_0 V0.length c_0, .int .i64 (m : Int), .slice A_1 V1.length c_1, .int .i64 0, .slice none 0 0, .int .i64 0, .slice none 0 0] [(.slice A_0 V0.length c_0, V0), (.slice A_1 V1.length c_1, V1)]) ∧ Aside0 (wx.ownsRow w.heap.size 3 1 (.slice A_s m c_s) m (nums .i64 (mp m fun i => if i < y.toNat then ((cntTo bt i l.length / 2 ^ 3 : Nat) : Int) else ((cntTo bt i l.length / 2 ^ 2 : Nat) : Int)))) ∧ Aside0 (wx.ownsRow w.heap.size 4 1 (.slice A_b2 m c_b2) m (bools (RefPlain.doneTo m y.toNat (digit bt l.length 2) (fun _ => false)))))
              case atStart => exact ⟨0, rfl, ⟨by omega, by omega, by omega⟩, P, HO, HV⟩
              case round =>
                clear P HO HV
                obtain ⟨y, rfl, HY, P, HO, HV⟩ := hrel
                by_cases qy : y < m
                · have py : 0 ≤ y := HY.out.1
                  obtain ⟨g, e_⟩ := own_some' HO.out (by omega)
                  subst e_
                  obtain ⟨gb, e_⟩ := own_some' HV.out (by omega)
                  subst e_
                  have c4 := cntTo_le bt y.toNat l.length
                  have c5 : cntTo bt y.toNat l.length / 2 ^ 2 ≤ cntTo bt y.toNat l.length := Nat.div_le_self _ _
                  obtain ⟨cv, hcv⟩ : ∃ q : Nat, cntTo bt y.toNat l.length / 2 ^ 2 = q := ⟨_, rfl⟩
                  have HCV := Aside0.mk hcv
                  rw [hcv] at c5
                  have c6 : cv ≤ 15 := by omega
                  clear hcv c4 c5
                  have sc_ : wr.cell? ⟨g, y.toNat, none⟩ = some (.int .i64 (cv : Int)) := own_cell HO.out y.toNat _ (by rw [nums, List.getElem?_map, mp_get _ (by omega)]; simp [HCV.out])
                  have sf_ := own_free HO.out y.toNat
                  have bc_ : wr.cell? ⟨gb, y.toNat, none⟩ = some (.bool false) := own_cell HV.out y.toNat _ (by rw [bools, List.getElem?_map, RefPlain.doneTo_get _ _ (by omega)]; simp)
                  have bf_ := own_free HV.out y.toNat
                  have ne_ : g ≠ gb := by
                    rintro rfl
                    obtain ⟨_, _, h1_⟩ := own_block HO.out g rfl
                    obtain ⟨_, _, h2_⟩ := own_block HV.out g rfl
                    rw [h1_] at h2_
                    injection h2_ with h2_
                    injection h2_ with _ h2_
                    exact absurd h2_ (by decide)
                  have ne2_ := ne_.symm
                  go_wp2
                  go_roundg (m - (y + 1).toNat)
                  case measure => go_light; have := HY.out; omega
                  case rel =>
                    go_light
                    obtain ⟨hwg, _, hbg⟩ := own_block HO.out g rfl
                    obtain ⟨hwb, _, hbb⟩ := own_block HV.out gb rfl
                    have P1 := P.out.other (i := y.toNat) (u := .bool ((cv : Int) % 2 == 1)) hbb hwb (by decide) (by decide)
                    have hbg2 := (Below.heap_setCell wr ⟨gb, y.toNat, none⟩ (.bool ((cv : Int) % 2 == 1)) g ne_).trans hbg
                    have h1 := own_put_int rfl (own_set_other (i := y.toNat) (u := .bool ((cv : Int) % 2 == 1)) HO.out hbb (by decide)) y.toNat ((cv : Int) / 2)
                    have h2 := own_set_other (i := y.toNat) (u := .int .i64 ((cv : Int) / 2)) (own_put_bool rfl HV.out y.toNat ((cv : Int) % 2 == 1)) hbg2 (by decide)
                    refine ⟨y + 1, rfl, ⟨by omega, by omega, by omega⟩, ⟨P1.other hbg2 hwg (by decide) (by decide)⟩, ⟨?_⟩, ⟨?_⟩⟩
                    · rw [mp_set] at h1
                      rw [mp_congr (g := fun i => if i < (y + 1).toNat then ((cntTo bt i l.length / 2 ^ 3 : Nat) : Int) else ((cntTo bt i l.length / 2 ^ 2 : Nat) : Int))] at h1
                      · exact h1
                      · intro i hi
                        by_cases e : i = y.toNat
                        · subst e
                          rw [if_pos rfl, if_pos (by omega), show cntTo bt y.toNat l.length / 2 ^ 3 = cntTo bt y.toNat l.length / 2 ^ 2 / 2 by rw [Nat.div_div_eq_div_mul], HCV.out]
                          omega
                        · rw [if_neg e]
                          by_cases h3 : i < y.toNat
                          · rw [if_pos h3, if_pos (by omega)]
                          · rw [if_neg h3, if_neg (by omega)]
                    · have e3 : ((cv : Int) % 2 == 1) = digit bt l.length 2 y.toNat := by unfold digit; rw [HCV.out, Bool.eq_iff_iff]; simp; omega
                      have e4 : (RefPlain.doneTo m y.toNat (digit bt l.length 2) (fun _ => false)).set y.toNat ((cv : Int) % 2 == 1) = RefPlain.doneTo m (y.toNat + 1) (digit bt l.length 2) (fun _ => false) := by rw [e3]; exact RefPlain.doneTo_set _ _ (by omega)
                      rw [e4] at h2
                      rwa [show (y + 1).toNat = y.toNat + 1 by omega]
                · have hy : y = m := by have := HY.out; omega
                  have h1 := HO.out
                  have h2 := HV.out
                  rw [hy, Int.toNat_natCast] at h1 h2
                  rw [mp_congr (g := fun i => ((cntTo bt i l.length / 2 ^ 3 : Nat) : Int)) (fun i hi => by rw [if_pos hi])] at h1
                  have hd : digits bt m l.length 2 = RefPlain.doneTo m m (digit bt l.length 2) (fun _ => false) := rfl
                  rw [← hd] at h2
                  clear HO HV hd
                  have HO := Aside0.mk h1
                  have HV := Aside0.mk h2
                  clear h1 h2
                  subst hy
                  go_wp2_with (go_at_call 48; have P1 := P.out; have h_ := PB.vivariumref02_Row.calls k A_b2 c_b2 (digits bt m l.length 2) (m : Int) V2 wr (bit_C' digits_len HV.out) (by rw [digits_len]; exact own_le HV.out) HE2.out; rw [digits_len] at h_; with_reducible refine h_.mono ?_; clear h_; rintro er_ u2 ⟨t_, rfl, hR, hb⟩; obtain ⟨A_2, c_2, e_, -, -⟩ := Kd.R_reads hR; subst e_; have P2 := P1.told hb hR; have HO2 := Aside0.mk (pw_own_below HO.out hb); clear hb hR P P1 HO HV; have P := Aside0.mk P2; have HO := HO2; clear P2 HO2; have x_0 := P.out.at_.2 0 _ rfl; have f_0 := blk_frozen P.out.bx 0; have x_1 := P.out.at_.2 1 _ rfl; have f_1 := blk_frozen P.out.bx 1; have x_2 := P.out.at_.2 2 _ rfl; have f_2 := blk_frozen P.out.bx 2; have x_3 := P.out.at_.2 3 _ rfl; have f_3 := blk_frozen P.out.bx 3; have x_4 := P.out.at_.2 4 _ rfl; have f_4 := blk_frozen P.out.bx 4; have x_5 := P.out.at_.2 5 _ rfl; have f_5 := blk_frozen P.out.bx 5; have x_6 := P.out.at_.2 6 _ rfl; have f_6 := blk_frozen P.out.bx 6; have x_7 := P.out.at_.2 7 _ rfl; have f_7 := blk_frozen P.out.bx 7)
                  have hb_ := P.out.bx
                  have P2 : CS w _ b r [.int .i64 (m : Int), .slice A_0 V0.length c_0, .int .i64 (m : Int), .slice A_1 V1.length c_1, .int .i64 (m : Int), .slice A_2 V2.length c_2, .int .i64 0, .slice none 0 0] [(.slice A_0 V0.length c_0, V0), (.slice A_1 V1.length c_1, V1), (.slice A_2 V2.length c_2, V2)] := P.out.put 4 (.int .i64 (m : Int)) (.slice A_2 V2.length c_2) (by simp [cells4])
                  have HO2 := Aside0.mk (own_set_other (i := 5) (u := .slice A_2 V2.length c_2) (own_set_other (i := 4) (u := .int .i64 (m : Int)) HO.out hb_ (by decide)) (blk_put hb_ 4 (.int .i64 (m : Int)) rfl) (by decide))
                  clear x_0 f_0 x_1 f_1 x_2 f_2 x_3 f_3 x_4 f_4 x_5 f_5 x_6 f_6 x_7 f_7 hb_ P HO
                  have P := Aside0.mk P2
                  have HO := HO2
                  clear P2 HO2
                  generalize (World.setCell _ _ _).setCell _ _ = w2 at P HO ⊢
                  rw [rounds_succ]
                  go_wp2_with ((with_reducible refine gate_dst (N := 60) rfl ?_); refine Kd.R_make Kd.bool _ 4 rfl (N := 60) rfl 35 _ _ rfl (m : Int) rfl rfl Try.underlying35 (.bool false) 1 (by kernel_rfl) rfl (by decide) (by omega) false (ok := fun _ => True) (okp := fun _ => True) rfl (fun _ hk => hk) trivial (by omega) (by omega) (Below.refl _ _) (Nat.le_refl _) ?_; intro v_ wb3 hR hb hg_ hn_; clear hg_ hn_; rw [Int.toNat_natCast] at hR; have ho_ := own_less (own_of_R_bit hR) P.out.be.size; obtain ⟨A_b3, c_b3, e_, -, -⟩ := Kd.R_reads hR; rw [List.length_replicate] at e_; subst e_; rw [List.length_replicate, ← RefPlain.doneTo_zero m (digit bt l.length 3)] at ho_; have HV := Aside0.mk ho_; have P2 := P.out.on hb; have HO2 := Aside0.mk (pw_own_below HO.out hb); clear hb hR ho_ P HO; have P := Aside0.mk P2; have HO := HO2; clear P2 HO2)
                  go_loopg [12] m (fun q2_ s12 wx => ∃ y : Int, s12 = .int .i64 y ∧ Aside0 (0 ≤ y ∧ y ≤ m ∧ (q2_ : Int) = m - y) ∧ Aside0 (CS w wx b r [.int .i64 (m : Int), .slice A_0 V0.length c_0, .int .i64 (m : Int), .slice A_1 V1.length c_1, .int .i64 (m : Int), .slice A_2 V2.length c_2, .int .i64 0, .slice none 0 0] [(.slice A_0 V0.length c_0, V0), (.slice A_1 V1.length c_1, V1), (.slice A_2 V2.length c_2, V2)]) ∧ Aside0 (wx.ownsRow w.heap.size 3 1 (.slice A_s m c_s) m (nums .i64 (mp m fun i => if i < y.toNat then ((cntTo bt i l.length / 2 ^ 4 : Nat) : Int) else ((cntTo bt i l.length / 2 ^ 3 : Nat) : Int)))) ∧ Aside0 (wx.ownsRow w.heap.size 4 1 (.slice A_b3 m c_b3) m (bools (RefPlain.doneTo m y.toNat (digit bt l.length 3) (fun _ => false)))))
                  case atStart => exact ⟨0, rfl, ⟨by omega, by omega, by omega⟩, P, HO, HV⟩
                  case round =>
                    clear P HO HV
                    obtain ⟨y, rfl, HY, P, HO, HV⟩ := hrel
                    by_cases qy : y < m
                    · have py : 0 ≤ y := HY.out.1
                      obtain ⟨g, e_⟩ := own_some' HO.out (by omega)
                      subst e_
                      obtain ⟨gb, e_⟩ := own_some' HV.out (by omega)
                      subst e_
                      have c4 := cntTo_le bt y.toNat l.length
                      have c5 : cntTo bt y.toNat l.length / 2 ^ 3 ≤ cntTo bt y.toNat l.length := Nat.div_le_self _ _
                      obtain ⟨cv, hcv⟩ : ∃ q : Nat, cntTo bt y.toNat l.length / 2 ^ 3 = q := ⟨_, rfl⟩
                      have HCV := Aside0.mk hcv
                      rw [hcv] at c5
                      have c6 : cv ≤ 15 := by omega
                      clear hcv c4 c5
                      have sc_ : wr.cell? ⟨g, y.toNat, none⟩ = some (.int .i64 (cv : Int)) := own_cell HO.out y.toNat _ (by rw [nums, List.getElem?_map, mp_get _ (by omega)]; simp [HCV.out])
                      have sf_ := own_free HO.out y.toNat
                      have bc_ : wr.cell? ⟨gb, y.toNat, none⟩ = some (.bool false) := own_cell HV.out y.toNat _ (by rw [bools, List.getElem?_map, RefPlain.doneTo_get _ _ (by omega)]; simp)
                      have bf_ := own_free HV.out y.toNat
                      have ne_ : g ≠ gb := by
                        rintro rfl
                        obtain ⟨_, _, h1_⟩ := own_block HO.out g rfl
                        obtain ⟨_, _, h2_⟩ := own_block HV.out g rfl
                        rw [h1_] at h2_
                        injection h2_ with h2_
                        injection h2_ with _ h2_
                        exact absurd h2_ (by decide)
                      have ne2_ := ne_.symm
                      go_wp2
                      go_roundg (m - (y + 1).toNat)
                      case measure => go_light; have := HY.out; omega
                      case rel =>
                        go_light
                        obtain ⟨hwg, _, hbg⟩ := own_block HO.out g rfl
                        obtain ⟨hwb, _, hbb⟩ := own_block HV.out gb rfl
                        have P1 := P.out.other (i := y.toNat) (u := .bool ((cv : Int) % 2 == 1)) hbb hwb (by decide) (by decide)
                        have hbg2 := (Below.heap_setCell wr ⟨gb, y.toNat, none⟩ (.bool ((cv : Int) % 2 == 1)) g ne_).trans hbg
                        have h1 := own_put_int rfl (own_set_other (i := y.toNat) (u := .bool ((cv : Int) % 2 == 1)) HO.out hbb (by decide)) y.toNat ((cv : Int) / 2)
                        have h2 := own_set_other (i := y.toNat) (u := .int .i64 ((cv : Int) / 2)) (own_put_bool rfl HV.out y.toNat ((cv : Int) % 2 == 1)) hbg2 (by decide)
                        refine ⟨y + 1, rfl, ⟨by omega, by omega, by omega⟩, ⟨P1.other hbg2 hwg (by decide) (by decide)⟩, ⟨?_⟩, ⟨?_⟩⟩
                        · rw [mp_set] at h1
                          rw [mp_congr (g := fun i => if i < (y + 1).toNat then ((cntTo bt i l.length / 2 ^ 4 : Nat) : Int) else ((cntTo bt i l.length / 2 ^ 3 : Nat) : Int))] at h1
                          · exact h1
                          · intro i hi
                            by_cases e : i = y.toNat
                            · subst e
                              rw [if_pos rfl, if_pos (by omega), show cntTo bt y.toNat l.length / 2 ^ 4 = cntTo bt y.toNat l.length / 2 ^ 3 / 2 by rw [Nat.div_div_eq_div_mul], HCV.out]
                              omega
                            · rw [if_neg e]
                              by_cases h3 : i < y.toNat
                              · rw [if_pos h3, if_pos (by omega)]
                              · rw [if_neg h3, if_neg (by omega)]
                        · have e3 : ((cv : Int) % 2 == 1) = digit bt l.length 3 y.toNat := by unfold digit; rw [HCV.out, Bool.eq_iff_iff]; simp; omega
                          have e4 : (RefPlain.doneTo m y.toNat (digit bt l.length 3) (fun _ => false)).set y.toNat ((cv : Int) % 2 == 1) = RefPlain.doneTo m (y.toNat + 1) (digit bt l.length 3) (fun _ => false) := by rw [e3]; exact RefPlain.doneTo_set _ _ (by omega)
                          rw [e4] at h2
                          rwa [show (y + 1).toNat = y.toNat + 1 by omega]
                    · have hy : y = m := by have := HY.out; omega
                      have h1 := HO.out
                      have h2 := HV.out
                      rw [hy, Int.toNat_natCast] at h1 h2
                      rw [mp_congr (g := fun i => ((cntTo bt i l.length / 2 ^ 4 : Nat) : Int)) (fun i hi => by rw [if_pos hi])] at h1
                      have hd : digits bt m l.length 3 = RefPlain.doneTo m m (digit bt l.length 3) (fun _ => false) := rfl
                      rw [← hd] at h2
                      clear HO HV hd
                      have HO := Aside0.mk h1
                      have HV := Aside0.mk h2
                      clear h1 h2
                      subst hy
                      go_wp2_with (go_at_call 48; have P1 := P.out; have h_ := PB.vivariumref02_Row.calls k A_b3 c_b3 (digits bt m l.length 3) (m : Int) V3 wr (bit_C' digits_len HV.out) (by rw [digits_len]; exact own_le HV.out) HE3.out; rw [digits_len] at h_; with_reducible refine h_.mono ?_; clear h_; rintro er_ u3 ⟨t_, rfl, hR, hb⟩; obtain ⟨A_3, c_3, e_, -, -⟩ := Kd.R_reads hR; subst e_; have P2 := P1.told hb hR; have HO2 := Aside0.mk (pw_own_below HO.out hb); clear hb hR P P1 HO HV; have P := Aside0.mk P2; have HO := HO2; clear P2 HO2; have x_0 := P.out.at_.2 0 _ rfl; have f_0 := blk_frozen P.out.bx 0; have x_1 := P.out.at_.2 1 _ rfl; have f_1 := blk_frozen P.out.bx 1; have x_2 := P.out.at_.2 2 _ rfl; have f_2 := blk_frozen P.out.bx 2; have x_3 := P.out.at_.2 3 _ rfl; have f_3 := blk_frozen P.out.bx 3; have x_4 := P.out.at_.2 4 _ rfl; have f_4 := blk_frozen P.out.bx 4; have x_5 := P.out.at_.2 5 _ rfl; have f_5 := blk_frozen P.out.bx 5; have x_6 := P.out.at_.2 6 _ rfl; have f_6 := blk_frozen P.out.bx 6; have x_7 := P.out.at_.2 7 _ rfl; have f_7 := blk_frozen P.out.bx 7)
                      have hb_ := P.out.bx
                      have P2 : CS w _ b r [.int .i64 (m : Int), .slice A_0 V0.length c_0, .int .i64 (m : Int), .slice A_1 V1.length c_1, .int .i64 (m : Int), .slice A_2 V2.length c_2, .int .i64 (m : Int), .slice A_3 V3.length c_3] [(.slice A_0 V0.length c_0, V0), (.slice A_1 V1.length c_1, V1), (.slice A_2 V2.length c_2, V2), (.slice A_3 V3.length c_3, V3)] := P.out.put 6 (.int .i64 (m : Int)) (.slice A_3 V3.length c_3) (by simp [cells4])
                      have HO2 := Aside0.mk (own_set_other (i := 7) (u := .slice A_3 V3.length c_3) (own_set_other (i := 6) (u := .int .i64 (m : Int)) HO.out hb_ (by decide)) (blk_put hb_ 6 (.int .i64 (m : Int)) rfl) (by decide))
                      clear x_0 f_0 x_1 f_1 x_2 f_2 x_3 f_3 x_4 f_4 x_5 f_5 x_6 f_6 x_7 f_7 hb_ P HO
                      have P := Aside0.mk P2
                      have HO := HO2
                      clear P2 HO2
                      generalize (World.setCell _ _ _).setCell _ _ = w3 at P HO ⊢
                      rw [rounds_succ]
                      have x_0 := P.out.at_.2 0 _ rfl
                      have z_0 : (w3).cell? ⟨r, 0, none⟩ = some (.int .i64 0) := (blk_cell P.out.rx 0).trans rfl
                      have f_0 := blk_frozen P.out.rx 0
                      have x_1 := P.out.at_.2 1 _ rfl
                      have z_1 : (w3).cell? ⟨r, 1, none⟩ = some (.slice none 0 0) := (blk_cell P.out.rx 1).trans rfl
                      have f_1 := blk_frozen P.out.rx 1
                      have x_2 := P.out.at_.2 2 _ rfl
                      have z_2 : (w3).cell? ⟨r, 2, none⟩ = some (.int .i64 0) := (blk_cell P.out.rx 2).trans rfl
                      have f_2 := blk_frozen P.out.rx 2
                      have x_3 := P.out.at_.2 3 _ rfl
                      have z_3 : (w3).cell? ⟨r, 3, none⟩ = some (.slice none 0 0) := (blk_cell P.out.rx 3).trans rfl
                      have f_3 := blk_frozen P.out.rx 3
                      have x_4 := P.out.at_.2 4 _ rfl
                      have z_4 : (w3).cell? ⟨r, 4, none⟩ = some (.int .i64 0) := (blk_cell P.out.rx 4).trans rfl
                      have f_4 := blk_frozen P.out.rx 4
                      have x_5 := P.out.at_.2 5 _ rfl
                      have z_5 : (w3).cell? ⟨r, 5, none⟩ = some (.slice none 0 0) := (blk_cell P.out.rx 5).trans rfl
                      have f_5 := blk_frozen P.out.rx 5
                      have x_6 := P.out.at_.2 6 _ rfl
                      have z_6 : (w3).cell? ⟨r, 6, none⟩ = some (.int .i64 0) := (blk_cell P.out.rx 6).trans rfl
                      have f_6 := blk_frozen P.out.rx 6
                      have x_7 := P.out.at_.2 7 _ rfl
                      have z_7 : (w3).cell? ⟨r, 7, none⟩ = some (.slice none 0 0) := (blk_cell P.out.rx 7).trans rfl
                      have f_7 := blk_frozen P.out.rx 7
                      go_wp2
                      go_ways
                      obtain ⟨d1, d2, d3⟩ := P.out.done (.int .i64 (m : Int)) (.slice A_0 V0.length c_0) (.int .i64 (m : Int)) (.slice A_1 V1.length c_1) (.int .i64 (m : Int)) (.slice A_2 V2.length c_2) (.int .i64 (m : Int)) (.slice A_3 V3.length c_3) _ rfl
                      exact bodyPost_ret (results_ct rfl _ _ r 54 _ (0, 0) _ rfl d1 hu4 rfl (by kernel_rfl)) rfl ⟨_, _, _, _, rfl, d2, d3⟩
end Go.Proofs.Ytlghmadoogblcaa.RefCount
end
section
namespace Go.Proofs.Ytlghmadoogblcaa.RefCount
open Go Go.RowKit Go.Proofs.YtlghmadoogblcaaW.PrintWords Go.Proofs.YtlghmadoogblcaaW.PrintLast Go.Proofs.YtlghmadoogblcaaW.PrintMore Go.Proofs.Ytlghmadoogblcaa.PW Go.Proofs.Ytlghmadoogblcaa.Book Go.Proofs.Ytlghmadoogblcaa.Lent Go.Proofs.Ytlghmadoogblcaa.Pile Go.Proofs.Ytlghmadoogblcaa.Rows4 Go.Proofs.Ytlghmadoogblcaa.CountWalk
set_option linter.unusedVariables false
set_option linter.unusedSimpArgs false
set_option maxHeartbeats 8000000 in
set_option maxRecDepth 100000 in
theorem count_none (k : Nat) (A0 : Option Addr) (c0 : Nat) (w : World) (hfit : PF.vivariumref02_fits.f k [] = some 0) (he : PB.vivariumref02_Row.f k [] = some (0, [])) :
    Calls Try.prog 32 #[.slice A0 0 c0] w fun e w' => ∃ v0 v1 v2 v3, e = .returned (.tuple #[.agg (cells4 0 v0 v1 v2 v3).toArray, .int .i64 0]) ∧ Rws w.heap.size w' ((⟨[], [], [], []⟩ : Q4).rows v0 v1 v2 v3) ∧ Below w.heap.size w w' := by
  have HF := Aside0.mk hfit; have HE := Aside0.mk he
  have hu := Try.underlying31
  have hu4 := Try.underlying54
  clear hfit he
  go_enter Try.func32, Try.ntmps32
  go_wp2_with (first
    | ((with_reducible refine gate_dst (N := 2) rfl ?_); refine box_event ?hg2 (N := 2) ?hd2 (cs := #[.int .i64 0, .slice none 0 0, .int .i64 0, .slice none 0 0, .int .i64 0, .slice none 0 0, .int .i64 0, .slice none 0 0]) (t := 54) ?hr2 ?_; (case hd2 => rfl); (case hg2 => rfl); (case hr2 => first | (go_simp; done) | (go_simp; rfl)); intro r gr W1 x1 hb1; have hgr : w.heap.size ≤ r := (by omega); clear gr)
    | ((with_reducible refine gate_dst (N := 4) rfl ?_); refine box_event ?hg4 (N := 4) ?hd4 (cs := #[.int .i64 0, .slice none 0 0, .int .i64 0, .slice none 0 0, .int .i64 0, .slice none 0 0, .int .i64 0, .slice none 0 0]) (t := 54) ?hr4 ?_; (case hd4 => rfl); (case hg4 => rfl); (case hr4 => first | (go_simp; done) | (go_simp; rfl)); intro b gb W2 x2 hb2; have P2 : CS w W2 b r (cells4 0 (.slice none 0 0) (.slice none 0 0) (.slice none 0 0) (.slice none 0 0)) [] := ⟨chain_ hb1 hb2, x2, blk_below x1 hb2, (by have := hb1.size; omega), (by omega), (by have := blk_lt x1; omega), Rws.nil⟩; have P := Aside0.mk P2; clear P2 x1 x2 hb1 hb2 gb)
    | (go_at_call 54; have P1 := P.out; have h_ : Calls Try.prog 54 #[.slice A0 0 c0] W2 (fun e w' => e = .returned (.int .i64 0) ∧ Below W2.heap.size W2 w') := PF.vivariumref02_fits.calls k A0 c0 [] 0 W2 ⟨rfl, by simp, fun h => absurd h (Nat.lt_irrefl 0)⟩ (Nat.zero_le _) HF.out; with_reducible refine h_.mono ?_; clear h_; rintro er_ v1 ⟨rfl, hb⟩; have P2 := P1.on hb; clear hb P P1; have P := Aside0.mk P2; clear P2)
    | ((with_reducible refine gate_dst (N := 31) rfl ?_); refine Kd.R_make (Kd.int .i64) _ 3 rfl (N := 31) rfl 74 _ _ rfl 0 rfl rfl Try.underlying74 (.int .i64 0) 8 (by kernel_rfl) rfl (by decide) (by omega) (0 : Int) (ok := fun _ => True) (okp := fun _ => True) rfl (fun _ hk => hk) trivial (by decide) (by decide) (Below.refl _ _) (Nat.le_refl _) ?_; intro v_ v2 hR hb hg_ hn_; clear hg_ hn_; obtain ⟨A_s, c_s, e_, -, -⟩ := Kd.R_reads hR; subst e_; have P2 := P.out.on hb; clear hb hR P; have P := Aside0.mk P2; clear P2))
  refine wp_loop_rounds 1 ?_
  rw [rounds_succ]
  go_wp2
  refine wp_loop_rounds 5 ?_
  rw [rounds_succ]
  go_wp2_with ((with_reducible refine gate_dst (N := 60) rfl ?_); refine Kd.R_make Kd.bool _ 4 rfl (N := 60) rfl 35 _ _ rfl 0 rfl rfl Try.underlying35 (.bool false) 1 (by kernel_rfl) rfl (by decide) (by omega) false (ok := fun _ => True) (okp := fun _ => True) rfl (fun _ hk => hk) trivial (by decide) (by decide) (Below.refl _ _) (Nat.le_refl _) ?_; intro v_ wb0 hR hb hg_ hn_; clear hg_ hn_; obtain ⟨A_b0, c_b0, e_, hl_, hC_⟩ := Kd.R_reads hR; subst e_; have HC_ := Aside0.mk hC_; have HL_ := Aside0.mk hl_; have P2 := P.out.on hb; clear hb hR P hC_ hl_; have P := Aside0.mk P2; clear P2)
  refine wp_loop_rounds 1 ?_
  rw [rounds_succ]
  go_wp2_with (go_at_call 48; have P1 := P.out; have h_ : Calls Try.prog 48 #[.slice A_b0 0 c_b0] wb0 (fun e w' => ∃ v1_ : Value, e = .returned (.agg #[.int .i64 0, v1_]) ∧ Kd.R (Kd.int .u64) 22 w' wb0.heap.size (fun _ => True) v1_ [] ∧ Below wb0.heap.size wb0 w') := PB.vivariumref02_Row.calls k A_b0 c_b0 [] 0 [] wb0 HC_.out HL_.out HE.out; with_reducible refine h_.mono ?_; clear h_; rintro er_ u0 ⟨t_, rfl, hR, hb⟩; obtain ⟨A_0, c_0, e_, -, -⟩ := Kd.R_reads hR; rw [List.length_nil] at e_; subst e_; have P2 := P1.told hb hR; clear hb hR P P1 HC_ HL_; have P := Aside0.mk P2; clear P2; have x_0 := P.out.at_.2 0 _ rfl; have f_0 := blk_frozen P.out.bx 0; have x_1 := P.out.at_.2 1 _ rfl; have f_1 := blk_frozen P.out.bx 1; have x_2 := P.out.at_.2 2 _ rfl; have f_2 := blk_frozen P.out.bx 2; have x_3 := P.out.at_.2 3 _ rfl; have f_3 := blk_frozen P.out.bx 3; have x_4 := P.out.at_.2 4 _ rfl; have f_4 := blk_frozen P.out.bx 4; have x_5 := P.out.at_.2 5 _ rfl; have f_5 := blk_frozen P.out.bx 5; have x_6 := P.out.at_.2 6 _ rfl; have f_6 := blk_frozen P.out.bx 6; have x_7 := P.out.at_.2 7 _ rfl; have f_7 := blk_frozen P.out.bx 7)
  have P2 : CS w _ b r [.int .i64 0, .slice A_0 0 c_0, .int .i64 0, .slice none 0 0, .int .i64 0, .slice none 0 0, .int .i64 0, .slice none 0 0] [(.slice A_0 0 c_0, [])] := P.out.put 0 (.int .i64 0) (.slice A_0 0 c_0) (by simp [cells4])
  clear x_0 f_0 x_1 f_1 x_2 f_2 x_3 f_3 x_4 f_4 x_5 f_5 x_6 f_6 x_7 f_7 P
  have P := Aside0.mk P2
  clear P2
  generalize (World.setCell _ _ _).setCell _ _ = w0 at P ⊢
  rw [rounds_succ]
  go_wp2_with ((with_reducible refine gate_dst (N := 60) rfl ?_); refine Kd.R_make Kd.bool _ 4 rfl (N := 60) rfl 35 _ _ rfl 0 rfl rfl Try.underlying35 (.bool false) 1 (by kernel_rfl) rfl (by decide) (by omega) false (ok := fun _ => True) (okp := fun _ => True) rfl (fun _ hk => hk) trivial (by decide) (by decide) (Below.refl _ _) (Nat.le_refl _) ?_; intro v_ wb1 hR hb hg_ hn_; clear hg_ hn_; obtain ⟨A_b1, c_b1, e_, hl_, hC_⟩ := Kd.R_reads hR; subst e_; have HC_ := Aside0.mk hC_; have HL_ := Aside0.mk hl_; have P2 := P.out.on hb; clear hb hR P hC_ hl_; have P := Aside0.mk P2; clear P2)
  refine wp_loop_rounds 1 ?_
  rw [rounds_succ]
  go_wp2_with (go_at_call 48; have P1 := P.out; have h_ : Calls Try.prog 48 #[.slice A_b1 0 c_b1] wb1 (fun e w' => ∃ v1_ : Value, e = .returned (.agg #[.int .i64 0, v1_]) ∧ Kd.R (Kd.int .u64) 22 w' wb1.heap.size (fun _ => True) v1_ [] ∧ Below wb1.heap.size wb1 w') := PB.vivariumref02_Row.calls k A_b1 c_b1 [] 0 [] wb1 HC_.out HL_.out HE.out; with_reducible refine h_.mono ?_; clear h_; rintro er_ u1 ⟨t_, rfl, hR, hb⟩; obtain ⟨A_1, c_1, e_, -, -⟩ := Kd.R_reads hR; rw [List.length_nil] at e_; subst e_; have P2 := P1.told hb hR; clear hb hR P P1 HC_ HL_; have P := Aside0.mk P2; clear P2; have x_0 := P.out.at_.2 0 _ rfl; have f_0 := blk_frozen P.out.bx 0; have x_1 := P.out.at_.2 1 _ rfl; have f_1 := blk_frozen P.out.bx 1; have x_2 := P.out.at_.2 2 _ rfl; have f_2 := blk_frozen P.out.bx 2; have x_3 := P.out.at_.2 3 _ rfl; have f_3 := blk_frozen P.out.bx 3; have x_4 := P.out.at_.2 4 _ rfl; have f_4 := blk_frozen P.out.bx 4; have x_5 := P.out.at_.2 5 _ rfl; have f_5 := blk_frozen P.out.bx 5; have x_6 := P.out.at_.2 6 _ rfl; have f_6 := blk_frozen P.out.bx 6; have x_7 := P.out.at_.2 7 _ rfl; have f_7 := blk_frozen P.out.bx 7)
  have P2 : CS w _ b r [.int .i64 0, .slice A_0 0 c_0, .int .i64 0, .slice A_1 0 c_1, .int .i64 0, .slice none 0 0, .int .i64 0, .slice none 0 0] [(.slice A_0 0 c_0, []), (.slice A_1 0 c_1, [])] := P.out.put 2 (.int .i64 0) (.slice A_1 0 c_1) (by simp [cells4])
  clear x_0 f_0 x_1 f_1 x_2 f_2 x_3 f_3 x_4 f_4 x_5 f_5 x_6 f_6 x_7 f_7 P
  have P := Aside0.mk P2
  clear P2
  generalize (World.setCell _ _ _).setCell _ _ = w1 at P ⊢
  rw [rounds_succ]
  go_wp2_with ((with_reducible refine gate_dst (N := 60) rfl ?_); refine Kd.R_make Kd.bool _ 4 rfl (N := 60) rfl 35 _ _ rfl 0 rfl rfl Try.underlying35 (.bool false) 1 (by kernel_rfl) rfl (by decide) (by omega) false (ok := fun _ => True) (okp := fun _ => True) rfl (fun _ hk => hk) trivial (by decide) (by decide) (Below.refl _ _) (Nat.le_refl _) ?_; intro v_ wb2 hR hb hg_ hn_; clear hg_ hn_; obtain ⟨A_b2, c_b2, e_, hl_, hC_⟩ := Kd.R_reads hR; subst e_; have HC_ := Aside0.mk hC_; have HL_ := Aside0.mk hl_; have P2 := P.out.on hb; clear hb hR P hC_ hl_; have P := Aside0.mk P2; clear P2)
  refine wp_loop_rounds 1 ?_
  rw [rounds_succ]
  go_wp2_with (go_at_call 48; have P1 := P.out; have h_ : Calls Try.prog 48 #[.slice A_b2 0 c_b2] wb2 (fun e w' => ∃ v1_ : Value, e = .returned (.agg #[.int .i64 0, v1_]) ∧ Kd.R (Kd.int .u64) 22 w' wb2.heap.size (fun _ => True) v1_ [] ∧ Below wb2.heap.size wb2 w') := PB.vivariumref02_Row.calls k A_b2 c_b2 [] 0 [] wb2 HC_.out HL_.out HE.out; with_reducible refine h_.mono ?_; clear h_; rintro er_ u2 ⟨t_, rfl, hR, hb⟩; obtain ⟨A_2, c_2, e_, -, -⟩ := Kd.R_reads hR; rw [List.length_nil] at e_; subst e_; have P2 := P1.told hb hR; clear hb hR P P1 HC_ HL_; have P := Aside0.mk P2; clear P2; have x_0 := P.out.at_.2 0 _ rfl; have f_0 := blk_frozen P.out.bx 0; have x_1 := P.out.at_.2 1 _ rfl; have f_1 := blk_frozen P.out.bx 1; have x_2 := P.out.at_.2 2 _ rfl; have f_2 := blk_frozen P.out.bx 2; have x_3 := P.out.at_.2 3 _ rfl; have f_3 := blk_frozen P.out.bx 3; have x_4 := P.out.at_.2 4 _ rfl; have f_4 := blk_frozen P.out.bx 4; have x_5 := P.out.at_.2 5 _ rfl; have f_5 := blk_frozen P.out.bx 5; have x_6 := P.out.at_.2 6 _ rfl; have f_6 := blk_frozen P.out.bx 6; have x_7 := P.out.at_.2 7 _ rfl; have f_7 := blk_frozen P.out.bx 7)
  have P2 : CS w _ b r [.int .i64 0, .slice A_0 0 c_0, .int .i64 0, .slice A_1 0 c_1, .int .i64 0, .slice A_2 0 c_2, .int .i64 0, .slice none 0 0] [(.slice A_0 0 c_0, []), (.slice A_1 0 c_1, []), (.slice A_2 0 c_2, [])] := P.out.put 4 (.int .i64 0) (.slice A_2 0 c_2) (by simp [cells4])
  clear x_0 f_0 x_1 f_1 x_2 f_2 x_3 f_3 x_4 f_4 x_5 f_5 x_6 f_6 x_7 f_7 P
  have P := Aside0.mk P2
  clear P2
  generalize (World.setCell _ _ _).setCell _ _ = w2 at P ⊢
  rw [rounds_succ]
  go_wp2_with ((with_reducible refine gate_dst (N := 60) rfl ?_); refine Kd.R_make Kd.bool _ 4 rfl (N := 60) rfl 35 _ _ rfl 0 rfl rfl Try.underlying35 (.bool false) 1 (by kernel_rfl) rfl (by decide) (by omega) false (ok := fun _ => True) (okp := fun _ => True) rfl (fun _ hk => hk) trivial (by decide) (by decide) (Below.refl _ _) (Nat.le_refl _) ?_; intro v_ wb3 hR hb hg_ hn_; clear hg_ hn_; obtain ⟨A_b3, c_b3, e_, hl_, hC_⟩ := Kd.R_reads hR; subst e_; have HC_ := Aside0.mk hC_; have HL_ := Aside0.mk hl_; have P2 := P.out.on hb; clear hb hR P hC_ hl_; have P := Aside0.mk P2; clear P2)
  refine wp_loop_rounds 1 ?_
  rw [rounds_succ]
  go_wp2_with (go_at_call 48; have P1 := P.out; have h_ : Calls Try.prog 48 #[.slice A_b3 0 c_b3] wb3 (fun e w' => ∃ v1_ : Value, e = .returned (.agg #[.int .i64 0, v1_]) ∧ Kd.R (Kd.int .u64) 22 w' wb3.heap.size (fun _ => True) v1_ [] ∧ Below wb3.heap.size wb3 w') := PB.vivariumref02_Row.calls k A_b3 c_b3 [] 0 [] wb3 HC_.out HL_.out HE.out; with_reducible refine h_.mono ?_; clear h_; rintro er_ u3 ⟨t_, rfl, hR, hb⟩; obtain ⟨A_3, c_3, e_, -, -⟩ := Kd.R_reads hR; rw [List.length_nil] at e_; subst e_; have P2 := P1.told hb hR; clear hb hR P P1 HC_ HL_; have P := Aside0.mk P2; clear P2; have x_0 := P.out.at_.2 0 _ rfl; have f_0 := blk_frozen P.out.bx 0; have x_1 := P.out.at_.2 1 _ rfl; have f_1 := blk_frozen P.out.bx 1; have x_2 := P.out.at_.2 2 _ rfl; have f_2 := blk_frozen P.out.bx 2; have x_3 := P.out.at_.2 3 _ rfl; have f_3 := blk_frozen P.out.bx 3; have x_4 := P.out.at_.2 4 _ rfl; have f_4 := blk_frozen P.out.bx 4; have x_5 := P.out.at_.2 5 _ rfl; have f_5 := blk_frozen P.out.bx 5; have x_6 := P.out.at_.2 6 _ rfl; have f_6 := blk_frozen P.out.bx 6; have x_7 := P.out.at_.2 7 _ rfl; have f_7 := blk_frozen P.out.bx 7)
  have P2 : CS w _ b r [.int .i64 0, .slice A_0 0 c_0, .int .i64 0, .slice A_1 0 c_1, .int .i64 0, .slice A_2 0 c_2, .int .i64 0, .slice A_3 0 c_3] [(.slice A_0 0 c_0, []), (.slice A_1 0 c_1, []), (.slice A_2 0 c_2, []), (.slice A_3 0 c_3, [])] := P.out.put 6 (.int .i64 0) (.slice A_3 0 c_3) (by simp [cells4])
  clear x_0 f_0 x_1 f_1 x_2 f_2 x_3 f_3 x_4 f_4 x_5 f_5 x_6 f_6 x_7 f_7 P
  have P := Aside0.mk P2
  clear P2
  generalize (World.setCell _ _ _).setCell _ _ = w3 at P ⊢
  rw [rounds_succ]
  have x_0 := P.out.at_.2 0 _ rfl
  have z_0 : (w3).cell? ⟨r, 0, none⟩ = some (.int .i64 0) := (blk_cell P.out.rx 0).trans rfl
  have f_0 := blk_frozen P.out.rx 0
  have x_1 := P.out.at_.2 1 _ rfl
  have z_1 : (w3).cell? ⟨r, 1, none⟩ = some (.slice none 0 0) := (blk_cell P.out.rx 1).trans rfl
  have f_1 := blk_frozen P.out.rx 1
  have x_2 := P.out.at_.2 2 _ rfl
  have z_2 : (w3).cell? ⟨r, 2, none⟩ = some (.int .i64 0) := (blk_cell P.out.rx 2).trans rfl
  have f_2 := blk_frozen P.out.rx 2
  have x_3 := P.out.at_.2 3 _ rfl
  have z_3 : (w3).cell? ⟨r, 3, none⟩ = some (.slice none 0 0) := (blk_cell P.out.rx 3).trans rfl
  have f_3 := blk_frozen P.out.rx 3
  have x_4 := P.out.at_.2 4 _ rfl
  have z_4 : (w3).cell? ⟨r, 4, none⟩ = some (.int .i64 0) := (blk_cell P.out.rx 4).trans rfl
  have f_4 := blk_frozen P.out.rx 4
  have x_5 := P.out.at_.2 5 _ rfl
  have z_5 : (w3).cell? ⟨r, 5, none⟩ = some (.slice none 0 0) := (blk_cell P.out.rx 5).trans rfl
  have f_5 := blk_frozen P.out.rx 5
  have x_6 := P.out.at_.2 6 _ rfl
  have z_6 : (w3).cell? ⟨r, 6, none⟩ = some (.int .i64 0) := (blk_cell P.out.rx 6).trans rfl
  have f_6 := blk_frozen P.out.rx 6
  have x_7 := P.out.at_.2 7 _ rfl
  have z_7 : (w3).cell? ⟨r, 7, none⟩ = some (.slice none 0 0) := (blk_cell P.out.rx 7).trans rfl
  have f_7 := blk_frozen P.out.rx 7
  go_wp2
  obtain ⟨d1, d2, d3⟩ := P.out.done (.int .i64 0) (.slice A_0 0 c_0) (.int .i64 0) (.slice A_1 0 c_1) (.int .i64 0) (.slice A_2 0 c_2) (.int .i64 0) (.slice A_3 0 c_3) _ rfl
  exact bodyPost_ret (results_ct rfl _ _ r 54 _ (0, 0) _ rfl d1 hu4 rfl (by kernel_rfl)) rfl ⟨_, _, _, _, rfl, d2, d3⟩
end Go.Proofs.Ytlghmadoogblcaa.RefCount
end
section
namespace Go.Proofs.Ytlghmadoogblcaa.RefPlain
open Go Go.RowKit Go.Proofs.Ytlghmadoogblcaa.PW Go.Proofs.Ytlghmadoogblcaa.PB Go.Proofs.YtlghmadoogblcaaW.PrintWords Go.Proofs.YtlghmadoogblcaaW.PrintLast Go.Proofs.YtlghmadoogblcaaW.PrintMore Go.Proofs.Ytlghmadoogblcaa.Bits Go.Proofs.Ytlghmadoogblcaa.Rowp
set_option maxRecDepth 100000
set_option linter.unusedVariables false
theorem of_loop_bits {n : Nat} {l : List Bool} (hl : l.length = n) :
    ∀ (j k i : Nat) (iI : Int) (W : Nat → Nat), iI = (i : Int) → j < k → i + j = n → Rowp.Good n W → ∃ W', Rowp.Good n W' ∧ (∀ q, q < n → bitAt W' q = (bitAt W q || (decide (i ≤ q) && l.getD q false))) ∧ words_Of.l0 k l (n : Int) iI (n : Int) (rowOf (nw n) W) = some ((n : Int), rowOf (nw n) W', 0)
  | 0, k + 1, i, _, W, rfl, _, h, g => ⟨W, g, fun q hq => by rw [decide_eq_false (by omega)]; simp, by rw [words_Of.l0, if_neg (by omega)]⟩
  | j + 1, k + 1, i, _, W, rfl, hk, h, g => by
    have hle := g.le
    have hi : i / 64 < nw n := by unfold nw; omega
    have hm : nw n ≤ 1025 := by unfold nw; omega
    have e1 : wrap64 ((i : Int) + 1) = ((i + 1 : Nat) : Int) := by rw [w64 _ (by omega)]; omega
    have hrd : rdOf false l (i : Int) = l.getD i false := by simp [rdOf]
    rw [words_Of.l0, if_pos (by omega), if_pos (by omega), if_pos (by omega), hrd]
    have hnext : ∀ q, (decide (i ≤ q) && l.getD q false) = ((decide (q = i) && l.getD i false) || (decide (i + 1 ≤ q) && l.getD q false)) := by
      intro q
      by_cases h1 : q = i
      · subst h1; simp
      · by_cases h2 : i ≤ q
        · simp [h1, h2, show i + 1 ≤ q by omega]
        · simp [h1, h2, show ¬ i + 1 ≤ q by omega]
    by_cases hb : l.getD i false = true
    · have e2 : Int.tdiv (i : Int) 64 = ((i / 64 : Nat) : Int) := (Int.ofNat_tdiv _ _).symm
      have e3 : Int.tmod (i : Int) 64 = ((i % 64 : Nat) : Int) := (Int.ofNat_tmod _ _).symm
      rw [if_pos hb, e2, e3, w64 ((i / 64 : Nat) : Int) (by omega), if_pos (by omega), rowOf_len, if_pos (by omega), if_pos (by omega), rowOf_rd _ _ _ hi,
        show (1 : Int) = ((1 : Nat) : Int) from rfl, shl_bit 1 (i % 64) (by decide) (Nat.mod_lt _ (by decide)), Nat.one_mul,
        bits_or_u64_nat _ _ (g.lt _ hi) (pow_lt64 _ (Nat.mod_lt _ (by decide))), rowOf_set]
      rw [show (i : Int) + ((1 : Nat) : Int) = (i : Int) + 1 from rfl, e1]
      obtain ⟨W', g', hw, h'⟩ := of_loop_bits hl j k (i + 1) _ (setBit W i) rfl (by omega) (by omega) (good_setBit g i (by omega))
      refine ⟨W', g', fun q hq => ?_, h'⟩
      rw [hw q hq, bitAt_setBit, hnext q, hb, Bool.and_true, Bool.or_assoc]
    · rw [if_neg hb, e1]
      obtain ⟨W', g', hw, h'⟩ := of_loop_bits hl j k (i + 1) _ W rfl (by omega) (by omega) g
      refine ⟨W', g', fun q hq => ?_, h'⟩
      have hb2 : l.getD i false = false := by simpa using hb
      rw [hw q hq, hnext q, hb2, Bool.and_false, Bool.false_or]
theorem of_spec_bits {l : List Bool} (hl : l.length ≤ 65538) (k : Nat) (hk : 65538 < k) : ∃ W, Rowp.Good l.length W ∧ (∀ q, q < l.length → bitAt W q = l.getD q false) ∧ words_Of.f k l = some ((l.length : Int), rowOf (nw l.length) W, 0) := by
  obtain ⟨W, g, hw, h⟩ := of_loop_bits (n := l.length) (l := l) rfl l.length k 0 0 (fun _ => 0) rfl (by omega) (by omega) (good_zero _ hl)
  refine ⟨W, g, fun q hq => by rw [hw q hq]; simp [bitAt], ?_⟩
  unfold words_Of.f
  rw [if_neg (by omega), blank_spec _ hl, Option.bind_some]
  rw [rowOf_zero] at h
  exact h
theorem of_agree (l : List Bool) (k : Nat) (hk : 150000 < k) : ∃ m Y e, words_Of.f k l = some (m, Y, e) ∧ vivariumref02_Of.f k l = some (m, Y, e) ∧ Y.length ≤ 2000000 ∧ words_Valid.f m Y = some true := by
  by_cases h : l.length ≤ 65538
  · obtain ⟨W, g, hw, e⟩ := of_spec_bits h k (by omega)
    obtain ⟨V, gv, hv, e2⟩ := row_spec h k (by omega)
    refine ⟨_, _, _, e, ?_, by rw [rowOf_len]; have := nw_le h; omega, valid_spec g⟩
    unfold vivariumref02_Of.f
    rw [if_neg (by omega), e2, Option.bind_some, row_eq gv g (fun i hi => by rw [hv i hi, hw i hi])]
  · refine ⟨0, [], 6, by unfold words_Of.f; rw [if_pos (by omega)], by unfold vivariumref02_Of.f; rw [if_pos (by omega)], by simp, ?_⟩
    have := valid_spec (good_zero 0 (by omega))
    simpa [rowOf, nw] using this
theorem new_agree (n : Int) (k : Nat) (hk : 150000 < k) : ∃ m Y e, words_New.f n = some (m, Y, e) ∧ vivariumref02_New.f k n = some (m, Y, e) ∧ Y.length ≤ 2000000 ∧ words_Valid.f m Y = some true := by
  by_cases h0 : n < 0
  · refine ⟨0, [], 2, by unfold words_New.f; rw [if_pos h0], by unfold vivariumref02_New.f; rw [if_pos h0], by simp, ?_⟩
    have := valid_spec (good_zero 0 (by omega))
    simpa [rowOf, nw] using this
  by_cases h1 : n > 65538
  · refine ⟨0, [], 2, by unfold words_New.f; rw [if_neg h0, if_pos h1], by unfold vivariumref02_New.f; rw [if_neg h0, if_pos h1], by simp, ?_⟩
    have := valid_spec (good_zero 0 (by omega))
    simpa [rowOf, nw] using this
  obtain ⟨m, rfl⟩ : ∃ m : Nat, n = (m : Int) := ⟨n.toNat, by omega⟩
  have hm : m ≤ 65538 := by omega
  have hlen : (List.replicate m false).length = m := List.length_replicate
  obtain ⟨V, gv, hv, e2⟩ := row_spec (l := List.replicate m false) (by omega) k (by omega)
  rw [hlen] at gv hv e2
  refine ⟨(m : Int), rowOf (nw m) (fun _ => 0), 0, ?_, ?_, by rw [rowOf_len]; have := nw_le hm; omega, valid_spec (good_zero m hm)⟩
  · unfold words_New.f
    rw [if_neg h0, if_neg h1, blank_spec _ hm, Option.bind_some, rowOf_zero]
  · unfold vivariumref02_New.f
    rw [if_neg h0, if_neg h1, if_pos (by omega), if_pos (by omega), Int.toNat_natCast, e2, Option.bind_some, row_eq gv (good_zero m hm) (fun i hi => by rw [hv i hi]; simp [bitAt, hi])]
end Go.Proofs.Ytlghmadoogblcaa.RefPlain
end
section
namespace Go.Proofs.Ytlghmadoogblcaa.CountPlain
open Go Go.RowKit Go.Proofs.Ytlghmadoogblcaa.PW Go.Proofs.YtlghmadoogblcaaW.PrintWords Go.Proofs.YtlghmadoogblcaaW.PrintLast Go.Proofs.YtlghmadoogblcaaW.PrintMore Go.Proofs.Ytlghmadoogblcaa.Bits Go.Proofs.Ytlghmadoogblcaa.Rowp Go.Proofs.Ytlghmadoogblcaa.RefPlain Go.Proofs.Ytlghmadoogblcaa.Rows4 Go.Proofs.Ytlghmadoogblcaa.CountWalk
set_option maxRecDepth 100000
set_option linter.unusedVariables false
theorem rowOf_getD (m : Nat) (W : Nat → Nat) (i : Nat) (h : i < m) : (rowOf m W).getD i 0 = (W i : Int) := by
  rw [List.getD_eq_getElem?_getD, rowOf_get m W i h]; rfl
theorem rowOf_put (m : Nat) (W : Nat → Nat) (i x : Nat) : (rowOf m W).set i (x : Int) = rowOf m (fun t => if t = i then x else W t) := by
  have := rowOf_set m W i x
  rwa [Int.toNat_natCast] at this
def dg (k c : Nat) : Bool := decide (c / 2 ^ k % 2 = 1)
theorem dg_step (c : Nat) (b : Bool) (hc : c ≤ 15) (hb : b = true → c ≤ 14) : ∀ c', c' = c + (if b then 1 else 0) →
    (dg 0 c != b) = dg 0 c' ∧ (dg 1 c != (dg 0 c && b)) = dg 1 c' ∧ (dg 2 c != (dg 1 c && (dg 0 c && b))) = dg 2 c' ∧ (dg 3 c != (dg 2 c && (dg 1 c && (dg 0 c && b)))) = dg 3 c' := by
  rintro c' rfl
  have key : ∀ c : Fin 16, ∀ b : Bool, (b = true → c.val ≤ 14) → ((dg 0 c.val != b) = dg 0 (c.val + (if b then 1 else 0)) ∧ (dg 1 c.val != (dg 0 c.val && b)) = dg 1 (c.val + (if b then 1 else 0)) ∧ (dg 2 c.val != (dg 1 c.val && (dg 0 c.val && b))) = dg 2 (c.val + (if b then 1 else 0)) ∧ (dg 3 c.val != (dg 2 c.val && (dg 1 c.val && (dg 0 c.val && b)))) = dg 3 (c.val + (if b then 1 else 0))) := by decide
  exact key ⟨c, by omega⟩ b hb
def CntIs (L : Nat) (q : Q4) (c : Nat → Nat) : Prop := ∃ A B C D : Nat → Nat, q = ⟨rowOf L A, rowOf L B, rowOf L C, rowOf L D⟩ ∧ (∀ t, t < L → A t < 18446744073709551616 ∧ B t < 18446744073709551616 ∧ C t < 18446744073709551616 ∧ D t < 18446744073709551616) ∧
  ∀ i, i < 64 * L → bitAt A i = dg 0 (c i) ∧ bitAt B i = dg 1 (c i) ∧ bitAt C i = dg 2 (c i) ∧ bitAt D i = dg 3 (c i)
theorem CntIs.congr {L : Nat} {q : Q4} {c c' : Nat → Nat} (h : CntIs L q c) (e : ∀ i, i < 64 * L → c i = c' i) : CntIs L q c' := by
  obtain ⟨A, B, C, D, hq, hl, hb⟩ := h
  exact ⟨A, B, C, D, hq, hl, fun i hi => by rw [← e i hi]; exact hb i hi⟩
theorem bitAt_put (W : Nat → Nat) (t x i : Nat) : bitAt (fun s => if s = t then x else W s) i = if i / 64 = t then x.testBit (i % 64) else bitAt W i := by
  unfold bitAt
  by_cases h : i / 64 = t
  · simp only [if_pos h]
  · simp only [if_neg h]
theorem zero_is (L : Nat) : CntIs L (zero4 L) (fun _ => 0) := by
  refine ⟨fun _ => 0, fun _ => 0, fun _ => 0, fun _ => 0, ?_, fun t _ => ⟨Nat.zero_lt_succ _, Nat.zero_lt_succ _, Nat.zero_lt_succ _, Nat.zero_lt_succ _⟩, fun i _ => by simp [bitAt, dg]⟩
  unfold zero4
  rw [rowOf_zero]
theorem word_is {L t w : Nat} {q : Q4} {c : Nat → Nat} (h : CntIs L q c) (ht : t < L) (hw : w < 18446744073709551616) (hc : ∀ i, i < 64 * L → c i ≤ 15) (hc2 : ∀ i, i / 64 = t → w.testBit (i % 64) = true → c i ≤ 14) :
    CntIs L (Q4.word q t (w : Int)) (fun i => if i / 64 = t then c i + (if w.testBit (i % 64) then 1 else 0) else c i) := by
  obtain ⟨A, B, C, D, rfl, hl, hb⟩ := h
  obtain ⟨ha, hB, hC, hD⟩ := hl t ht
  have h1 := bits_and_n (A t) w ha hw
  have h2 := bits_and_n (B t) (A t &&& w) hB h1
  have h3 := bits_and_n (C t) (B t &&& (A t &&& w)) hC h2
  refine ⟨fun s => if s = t then A t ^^^ w else A s, fun s => if s = t then B t ^^^ (A t &&& w) else B s, fun s => if s = t then C t ^^^ (B t &&& (A t &&& w)) else C s, fun s => if s = t then D t ^^^ (C t &&& (B t &&& (A t &&& w))) else D s, ?_, fun s hs => ?_, fun i hi => ?_⟩
  · unfold Q4.word
    simp only
    rw [rowOf_getD _ _ _ ht, rowOf_getD _ _ _ ht, rowOf_getD _ _ _ ht, rowOf_getD _ _ _ ht, bits_and_u64_nat _ _ ha hw, bits_and_u64_nat _ _ hB h1, bits_and_u64_nat _ _ hC h2,
      bits_xor_u64_nat _ _ ha hw, bits_xor_u64_nat _ _ hB h1, bits_xor_u64_nat _ _ hC h2, bits_xor_u64_nat _ _ hD h3, rowOf_put, rowOf_put, rowOf_put, rowOf_put]
  · by_cases e : s = t
    · simp only [if_pos e]
      exact ⟨bits_xor_n _ _ ha hw, bits_xor_n _ _ hB h1, bits_xor_n _ _ hC h2, bits_xor_n _ _ hD h3⟩
    · simp only [if_neg e]
      exact hl s hs
  · rw [bitAt_put, bitAt_put, bitAt_put, bitAt_put]
    by_cases e : i / 64 = t
    · simp only [if_pos e]
      obtain ⟨b0, b1, b2, b3⟩ := hb i hi
      unfold bitAt at b0 b1 b2 b3
      rw [e] at b0 b1 b2 b3
      obtain ⟨d0, d1, d2, d3⟩ := dg_step (c i) (w.testBit (i % 64)) (hc i hi) (hc2 i e) _ rfl
      simp only [Nat.testBit_xor, Nat.testBit_and, b0, b1, b2, b3]
      exact ⟨d0, d1, d2, d3⟩
    · simp only [if_neg e]
      exact hb i hi
theorem words_is {L : Nat} {q : Q4} {c : Nat → Nat} {W : Nat → Nat} (h : CntIs L q c) (hw : ∀ t, t < L → W t < 18446744073709551616) (hc : ∀ i, i < 64 * L → c i ≤ 14) : ∀ x, x ≤ L →
    CntIs L (Q4.wordsTo q (rowOf L W) x) (fun i => if i / 64 < x then c i + (if bitAt W i then 1 else 0) else c i)
  | 0, _ => h.congr (fun i _ => by simp)
  | x + 1, hx => by
    have ih := words_is h hw hc x (by omega)
    show CntIs L (Q4.word (Q4.wordsTo q (rowOf L W) x) x ((rowOf L W).getD x 0)) _
    rw [rowOf_getD _ _ _ (by omega)]
    refine (word_is ih (by omega) (hw x (by omega)) (fun i hi => ?_) (fun i e _ => ?_)).congr (fun i hi => ?_)
    · have := hc i hi
      split
      · split <;> omega
      · omega
    · rw [if_neg (show ¬ i / 64 < x by omega)]
      exact hc i (by omega)
    · by_cases e : i / 64 = x
      · rw [if_pos e, if_neg (show ¬ i / 64 < x by omega), if_pos (show i / 64 < x + 1 by omega)]
        unfold bitAt
        rw [e]
      · rw [if_neg e]
        by_cases e2 : i / 64 < x
        · rw [if_pos e2, if_pos (show i / 64 < x + 1 by omega)]
        · rw [if_neg e2, if_neg (show ¬ i / 64 < x + 1 by omega)]
theorem rows_is {m : Nat} {l : List S31} {Wf : Nat → Nat → Nat} (h15 : l.length ≤ 15) (h : ∀ j, j < l.length → l.getD j z31 = ⟨(m : Int), rowOf (nw m) (Wf j)⟩ ∧ Rowp.Good m (Wf j)) : ∀ j, j ≤ l.length →
    CntIs (nw m) (Q4.rowsTo (zero4 (nw m)) l j) (fun i => cntTo (fun j i => bitAt (Wf j) i) i j)
  | 0, _ => (zero_is _).congr (fun i _ => rfl)
  | j + 1, hj => by
    have ih := rows_is h15 h j (by omega)
    obtain ⟨e, g⟩ := h j (by omega)
    show CntIs (nw m) (Q4.wordsTo (Q4.rowsTo (zero4 (nw m)) l j) (l.getD j z31).f1 (l.getD j z31).f1.length) _
    rw [e]
    simp only [rowOf_len]
    refine (words_is ih g.lt (fun i hi => ?_) (nw m) (Nat.le_refl _)).congr (fun i hi => ?_)
    · have := cntTo_le (fun j i => bitAt (Wf j) i) i j
      omega
    · rw [if_pos (show i / 64 < nw m by omega)]
      rfl
theorem cnt_high {m : Nat} {Wf : Nat → Nat → Nat} {n : Nat} (h : ∀ j, j < n → Rowp.Good m (Wf j)) (i : Nat) (h1 : m ≤ i) (h2 : i < 64 * nw m) : ∀ j, j ≤ n → cntTo (fun j i => bitAt (Wf j) i) i j = 0
  | 0, _ => rfl
  | j + 1, hj => by
    show cntTo (fun j i => bitAt (Wf j) i) i j + _ = 0
    rw [cnt_high h i h1 h2 j (by omega), if_neg (by show ¬ bitAt (Wf j) i = true; rw [good_high (h j (by omega)) i h1 h2]; decide)]
def Told (F : FuncId) (l : List S31) (n : Int) (q : Q4) (er : Int) : Prop := ∀ (A0 : Option Addr) (c0 : Nat) (w : World), Kd.C k31 w A0 l.length l → l.length ≤ c0 →
  Calls Try.prog F #[.slice A0 l.length c0] w fun e w' => ∃ v0 v1 v2 v3, e = .returned (.tuple #[.agg #[.int .i64 n, v0, .int .i64 n, v1, .int .i64 n, v2, .int .i64 n, v3], .int .i64 er]) ∧ Rws w.heap.size w' [(v0, q.a), (v1, q.b), (v2, q.c), (v3, q.d)] ∧ Below w.heap.size w w'
end Go.Proofs.Ytlghmadoogblcaa.CountPlain
end
section
namespace Go.Proofs.Ytlghmadoogblcaa.Pile
open Go Go.RowKit Go.Proofs.YtlghmadoogblcaaW.PrintWords Go.Proofs.YtlghmadoogblcaaW.PrintLast Go.Proofs.YtlghmadoogblcaaW.PrintMore Go.Proofs.Ytlghmadoogblcaa.PW Go.Proofs.Ytlghmadoogblcaa.Bx Go.Proofs.Ytlghmadoogblcaa.Book Go.Proofs.Ytlghmadoogblcaa.Lent Go.Proofs.Ytlghmadoogblcaa.Rows4
set_option linter.unusedVariables false
set_option linter.unusedSimpArgs false
section
variable {w W W' : World} {b g : Nat} {gv wv : Value} {Z : List Ans} {ix : List Nat} {R Q : List (Value × List Int)} {T : List (Nat × List Value)} {L : List (Nat × Nat × List Int)} {B : List (Value × List Bool)}
theorem Pile0.grown {row : Option Nat} (h : Pile0 w W [] L B) (hB : B = []) (hg : W.grownBy W' row) (hr : ∀ k, row = some k → w.heap.size ≤ k ∧ ∃ cs, W.heap[k]? = some (.cells cs 31 (0, 0))) : Pile0 w W' [] L B := by
  subst hB
  have lt : ∀ (k : Nat), row = some k → ∀ (j : Nat) l, L[j]? = some l → l.1 ≠ k := by
    rintro k hk j l hl rfl
    obtain ⟨_, cs, hc⟩ := hr _ hk
    obtain ⟨cs', hc'⟩ := own_typed (h.lent j l hl) l.1 rfl
    rw [hc] at hc'
    injection hc' with hc'
    injection hc' with _ hc'
    exact absurd hc' (by decide)
  refine ⟨h.be.grown hg h.be.size (fun k hk => (hr k hk).1), fun p hp => by simp at hp, fun j l hl => own_other (h.lent j l hl) hg (.inr (fun e => lt l.1 e.symm j l hl rfl)), h.lap, fun j p hj => by simp at hj, fun i j p q _ hi => by simp at hi⟩
end
end Go.Proofs.Ytlghmadoogblcaa.Pile
end
section
namespace Go.Proofs.Ytlghmadoogblcaa.PW
open Go.RowKit Go.Proofs.YtlghmadoogblcaaW.PrintWords Go.Proofs.YtlghmadoogblcaaW.PrintLast Go.Proofs.YtlghmadoogblcaaW.PrintMore
attribute [local go_sem] max2_int min2_int max_two min_two max_three min_three max_four min_four   -- for this text's walks alone
set_option linter.unusedVariables false
set_option linter.unusedSimpArgs false
def vivariumlaw02_alive.f (k : Nat)  : Option (Bool) := (words_Of.f k (([true, false, true] : List Bool))).bind fun bt204 => ((words_Up.f k bt204.1 bt204.2.1 true).bind fun bt210 => ((words_Ones.f k bt210.1 bt210.2.1).bind fun bt217 => ((words_Half.f 12 10).bind fun bt219 => (if bt204.2.2 = 0 then (if bt210.2.2.2 = 0 then (if bt217.2 = 0 then (if bt204.1 = 3 then (if (bt204.2.1.length : Int) = 1 then (if 0 < (bt204.2.1.length : Int) then (if (rd bt204.2.1 0) = 5 then (if bt210.2.2.1 = true then (if bt217.1 = 2 then ((words_Get.f bt210.1 bt210.2.1 1).bind fun t222 => (if t222 = true then ((words_Get.f bt210.1 bt210.2.1 2).bind fun t223 => (if t223 = true then (some false) else (if bt219.1 = 6 then (some (bt219.2 == 8)) else (some false)))) else (some false))) else (some false)) else (some false)) else (some false)) else (none)) else (some false)) else (some false)) else (some false)) else (some false)) else (some false)))))
theorem vivariumlaw02_alive.mono : ∀ k, LeO (vivariumlaw02_alive.f k ) (vivariumlaw02_alive.f (k + 1) ) := by
  intro  k
  unfold vivariumlaw02_alive.f
  repeat' first
      | (with_reducible exact words_Of.mono _ _)
      | (with_reducible exact words_Ones.mono _ _ _)
      | (with_reducible exact words_Up.mono _ _ _ _)
      | (with_reducible exact LeO.refl _)
      | (with_reducible exact LeO.none _)
      | (with_reducible refine LeO.ite ?_ ?_)
      | (with_reducible refine LeO.bind ?_ (fun _ => ?_))
      | exact words_Of.mono _ _
      | exact words_Ones.mono _ _ _
      | exact words_Up.mono _ _ _ _
      | exact LeO.none _
      | refine LeO.ite ?_ ?_
      | refine LeO.bind ?_ (fun _ => ?_)
set_option maxHeartbeats 8000000 in
set_option maxRecDepth 100000 in
theorem vivariumlaw02_alive.calls (k : Nat)  (r : Bool) (w : World) (hrt_ : r = true) (h : vivariumlaw02_alive.f k  = some r) :
    Calls Try.prog 13 #[] w fun e w' => e = .returned (.bool r) ∧ Below w.heap.size w w' := by
  have hu31 := Try.underlying31
  have HB := Aside0.mk (Below.refl w.heap.size w)
  have H : ((words_Of.f k (([true, false, true] : List Bool))).bind fun bt204 => ((words_Up.f k bt204.1 bt204.2.1 true).bind fun bt210 => ((words_Ones.f k bt210.1 bt210.2.1).bind fun bt217 => ((words_Half.f 12 10).bind fun bt219 => (if bt204.2.2 = 0 then (if bt210.2.2.2 = 0 then (if bt217.2 = 0 then (if bt204.1 = 3 then (if (bt204.2.1.length : Int) = 1 then (if 0 < (bt204.2.1.length : Int) then (if (rd bt204.2.1 0) = 5 then (if bt210.2.2.1 = true then (if bt217.1 = 2 then ((words_Get.f bt210.1 bt210.2.1 1).bind fun t222 => (if t222 = true then ((words_Get.f bt210.1 bt210.2.1 2).bind fun t223 => (if t223 = true then (some false) else (if bt219.1 = 6 then (some (bt219.2 == 8)) else (some false)))) else (some false))) else (some false)) else (some false)) else (some false)) else (none)) else (some false)) else (some false)) else (some false)) else (some false)) else (some false)))))) = some r := h
  clear h
  obtain ⟨y201, hy201⟩ : ∃ y_ : List Bool, y_ = (([true, false, true] : List Bool)) := ⟨_, rfl⟩
  replace H : ((words_Of.f k y201).bind fun bt204 => ((words_Up.f k bt204.1 bt204.2.1 true).bind fun bt210 => ((words_Ones.f k bt210.1 bt210.2.1).bind fun bt217 => ((words_Half.f 12 10).bind fun bt219 => (if bt204.2.2 = 0 then (if bt210.2.2.2 = 0 then (if bt217.2 = 0 then (if bt204.1 = 3 then (if (bt204.2.1.length : Int) = 1 then (if 0 < (bt204.2.1.length : Int) then (if (rd bt204.2.1 0) = 5 then (if bt210.2.2.1 = true then (if bt217.1 = 2 then ((words_Get.f bt210.1 bt210.2.1 1).bind fun t222 => (if t222 = true then ((words_Get.f bt210.1 bt210.2.1 2).bind fun t223 => (if t223 = true then (some false) else (if bt219.1 = 6 then (some (bt219.2 == 8)) else (some false)))) else (some false))) else (some false)) else (some false)) else (some false)) else (none)) else (some false)) else (some false)) else (some false)) else (some false)) else (some false)))))) = some r := by first | (rw [hy201]; with_reducible exact H) | (have H2_ := (Option.bind_some _ _).symm.trans H; rw [hy201]; with_reducible exact H2_) | (have H2_ := (Option.bind_some _ _).symm.trans H; with_reducible exact H2_) | with_reducible exact H | (rw [hy201]; exact H) | exact H
  have Ny201 := Aside0.mk hy201
  clear hy201
  replace H := Option.bind_eq_some_iff.mp H
  obtain ⟨⟨t204, t205, t208⟩, A10, H⟩ := H
  replace H : ((words_Up.f k t204 t205 true).bind fun bt210 => ((words_Ones.f k bt210.1 bt210.2.1).bind fun bt217 => ((words_Half.f 12 10).bind fun bt219 => (if t208 = 0 then (if bt210.2.2.2 = 0 then (if bt217.2 = 0 then (if t204 = 3 then (if (t205.length : Int) = 1 then (if 0 < (t205.length : Int) then (if (rd t205 0) = 5 then (if bt210.2.2.1 = true then (if bt217.1 = 2 then ((words_Get.f bt210.1 bt210.2.1 1).bind fun t222 => (if t222 = true then ((words_Get.f bt210.1 bt210.2.1 2).bind fun t223 => (if t223 = true then (some false) else (if bt219.1 = 6 then (some (bt219.2 == 8)) else (some false)))) else (some false))) else (some false)) else (some false)) else (some false)) else (none)) else (some false)) else (some false)) else (some false)) else (some false)) else (some false))))) = some r := H
  have A1 := Aside0.mk A10
  clear A10
  replace H := Option.bind_eq_some_iff.mp H
  obtain ⟨⟨t210, t211, t214, t215⟩, A20, H⟩ := H
  replace H : ((words_Ones.f k t210 t211).bind fun bt217 => ((words_Half.f 12 10).bind fun bt219 => (if t208 = 0 then (if t215 = 0 then (if bt217.2 = 0 then (if t204 = 3 then (if (t205.length : Int) = 1 then (if 0 < (t205.length : Int) then (if (rd t205 0) = 5 then (if t214 = true then (if bt217.1 = 2 then ((words_Get.f t210 t211 1).bind fun t222 => (if t222 = true then ((words_Get.f t210 t211 2).bind fun t223 => (if t223 = true then (some false) else (if bt219.1 = 6 then (some (bt219.2 == 8)) else (some false)))) else (some false))) else (some false)) else (some false)) else (some false)) else (none)) else (some false)) else (some false)) else (some false)) else (some false)) else (some false)))) = some r := H
  have A2 := Aside0.mk A20
  clear A20
  replace H := Option.bind_eq_some_iff.mp H
  obtain ⟨⟨t217, t218⟩, A30, H⟩ := H
  replace H : ((words_Half.f 12 10).bind fun bt219 => (if t208 = 0 then (if t215 = 0 then (if t218 = 0 then (if t204 = 3 then (if (t205.length : Int) = 1 then (if 0 < (t205.length : Int) then (if (rd t205 0) = 5 then (if t214 = true then (if t217 = 2 then ((words_Get.f t210 t211 1).bind fun t222 => (if t222 = true then ((words_Get.f t210 t211 2).bind fun t223 => (if t223 = true then (some false) else (if bt219.1 = 6 then (some (bt219.2 == 8)) else (some false)))) else (some false))) else (some false)) else (some false)) else (some false)) else (none)) else (some false)) else (some false)) else (some false)) else (some false)) else (some false))) = some r := H
  have A3 := Aside0.mk A30
  clear A30
  replace H := Option.bind_eq_some_iff.mp H
  obtain ⟨⟨t219, t220⟩, A40, H⟩ := H
  replace H : (if t208 = 0 then (if t215 = 0 then (if t218 = 0 then (if t204 = 3 then (if (t205.length : Int) = 1 then (if 0 < (t205.length : Int) then (if (rd t205 0) = 5 then (if t214 = true then (if t217 = 2 then ((words_Get.f t210 t211 1).bind fun t222 => (if t222 = true then ((words_Get.f t210 t211 2).bind fun t223 => (if t223 = true then (some false) else (if t219 = 6 then (some (t220 == 8)) else (some false)))) else (some false))) else (some false)) else (some false)) else (some false)) else (none)) else (some false)) else (some false)) else (some false)) else (some false)) else (some false)) = some r := H
  have A4 := Aside0.mk A40
  clear A40
  by_cases c5 : t208 = 0
  · rw [if_pos c5] at H
    have c5b0 : (t208 == 0) = true := beq_iff_eq.mpr c5
    have c5b1 : (t208 != 0) = false := bne_eq_false_iff_eq.mpr c5
    clear c5
    by_cases c6 : t215 = 0
    · rw [if_pos c6] at H
      have c6b0 : (t215 == 0) = true := beq_iff_eq.mpr c6
      have c6b1 : (t215 != 0) = false := bne_eq_false_iff_eq.mpr c6
      clear c6
      by_cases c7 : t218 = 0
      · rw [if_pos c7] at H
        have c7b0 : (t218 == 0) = true := beq_iff_eq.mpr c7
        have c7b1 : (t218 != 0) = false := bne_eq_false_iff_eq.mpr c7
        clear c7
        by_cases c8 : t204 = 3
        · rw [if_pos c8] at H
          have c8b0 : (t204 == 3) = true := beq_iff_eq.mpr c8
          have c8b1 : (t204 != 3) = false := bne_eq_false_iff_eq.mpr c8
          clear c8
          by_cases c9 : (t205.length : Int) = 1
          · rw [if_pos c9] at H
            have c9b0 : ((t205.length : Int) == 1) = true := beq_iff_eq.mpr c9
            have c9b1 : ((t205.length : Int) != 1) = false := bne_eq_false_iff_eq.mpr c9
            clear c9
            by_cases c10 : 0 < (t205.length : Int)
            · rw [if_pos c10] at H
              have c10b0 : decide (0 < (t205.length : Int)) = true := decide_eq_true c10
              have c10b1 : decide (0 < t205.length) = true := decide_eq_true (by omega)
              clear c10
              by_cases c11 : (rd t205 0) = 5
              · rw [if_pos c11] at H
                have c11b0 : ((rd t205 0) == 5) = true := beq_iff_eq.mpr c11
                have c11b1 : ((rd t205 0) != 5) = false := bne_eq_false_iff_eq.mpr c11
                clear c11
                by_cases c12 : t214 = true
                · subst c12
                  have H1 : (if t217 = 2 then ((words_Get.f t210 t211 1).bind fun t222 => (if t222 = true then ((words_Get.f t210 t211 2).bind fun t223 => (if t223 = true then (some false) else (if t219 = 6 then (some (t220 == 8)) else (some false)))) else (some false))) else (some false)) = some r := by rw [if_pos rfl] at H; exact H
                  clear H
                  have H := H1
                  clear H1
                  by_cases c13 : t217 = 2
                  · rw [if_pos c13] at H
                    have c13b0 : (t217 == 2) = true := beq_iff_eq.mpr c13
                    have c13b1 : (t217 != 2) = false := bne_eq_false_iff_eq.mpr c13
                    clear c13
                    replace H := Option.bind_eq_some_iff.mp H
                    obtain ⟨t222, A140, H⟩ := H
                    replace H : (if t222 = true then ((words_Get.f t210 t211 2).bind fun t223 => (if t223 = true then (some false) else (if t219 = 6 then (some (t220 == 8)) else (some false)))) else (some false)) = some r := H
                    have A14 := Aside0.mk A140
                    clear A140
                    by_cases c15 : t222 = true
                    · subst c15
                      have H1 : ((words_Get.f t210 t211 2).bind fun t223 => (if t223 = true then (some false) else (if t219 = 6 then (some (t220 == 8)) else (some false)))) = some r := by rw [if_pos rfl] at H; exact H
                      clear H
                      have H := H1
                      clear H1
                      replace H := Option.bind_eq_some_iff.mp H
                      obtain ⟨t223, A160, H⟩ := H
                      replace H : (if t223 = true then (some false) else (if t219 = 6 then (some (t220 == 8)) else (some false))) = some r := H
                      have A16 := Aside0.mk A160
                      clear A160
                      by_cases c17 : t223 = true
                      · subst c17
                        have H1 : (some false) = some r := by rw [if_pos rfl] at H; exact H
                        exact absurd (Option.some.inj H1) (by rw [hrt_]; decide)
                      · replace c17 := Bool.eq_false_iff.mpr c17
                        subst c17
                        have H1 : (if t219 = 6 then (some (t220 == 8)) else (some false)) = some r := by rw [if_neg (show ¬ (false = true) by decide)] at H; exact H
                        clear H
                        have H := H1
                        clear H1
                        by_cases c36 : t219 = 6
                        · rw [if_pos c36] at H
                          have c36b0 : (t219 == 6) = true := beq_iff_eq.mpr c36
                          have c36b1 : (t219 != 6) = false := bne_eq_false_iff_eq.mpr c36
                          clear c36
                          obtain rfl := Option.some.inj H
                          go_enter Try.func13, Try.ntmps13
                          go_wp2_with (first | ((with_reducible refine gate_dst (N := 11) rfl ?_); (try (refine gate_guard (by rfl) ?_; dsimp only)); refine Kd.R_lit Kd.bool _ 4 ?hg (N := 11) ?hd (xs := ([true, false, true] : List Bool)) (inner := [.bool true, .bool false, .bool true]) (ok := fun _ => True) (okp := fun _ => True) ?hr ?hp (fun _ hk => hk) trivial (Below.refl _ _) (Nat.le_refl _) (by simp) ?_; (case hd => rfl); (case hg => rfl); (case hr => first | (go_simp; done) | (go_simp; rfl)); (case hp => exact (Reps.one (show Kd.M Kd.bool _ _ _ true [.bool true] from rfl) (Reps.one (show Kd.M Kd.bool _ _ _ false [.bool false] from rfl) (Reps.one (show Kd.M Kd.bool _ _ _ true [.bool true] from rfl) (Reps.none _ _))))); intro v202 w37 ho38 hb hg_ hnew_; clear hg_ hnew_; (first | rw [← Ny201.out] at ho38 | (simp only [Int.reduceToNat] at ho38; rw [← Ny201.out] at ho38)); have n0_ := Aside0.mk (Kd.R_lower ho38 (below_size (by repeat (first | (with_reducible first | exact HB.out | apply below_alloc | apply pw_below_drewN | apply below_drew1) | exact HB.out)))); have n1_ := Aside0.mk (below_step (by repeat (first | (with_reducible first | exact HB.out | apply below_alloc | apply pw_below_drewN | apply below_drew1) | exact HB.out)) hb); clear HB; have HO203 := n0_; have HB := n1_; clear n0_ n1_; clear hb ho38; obtain ⟨Ao39, co39, eo39⟩ := Kd.R_slice HO203.out; subst eo39) | ((with_reducible refine gate_callee (f := 18) rfl ?_); refine goesL_ (some 12) rfl rfl Try.func18 (by kernel_rfl) rfl #[.slice Ao39 y201.length co39] rfl (by (try simp only [List.map_toArray, List.map_cons, List.map_nil]); first | done | rfl | (simp only [List.length_drop, List.length_take]; rfl)) ?_; (with_reducible refine (words_Of.calls k _ _ y201 t204 t205 t208 _ ?side1 ?side2 A1.out).mono ?_); (case side1 => repeat (first | exact (Kd.R_reads' HO203.out).2.2 | (with_reducible refine Kd.C_alloc ?_ _) | (with_reducible refine Kd.C_drewN ?_ _) | (with_reducible refine Kd.C_drew ?_))); (case side2 => exact (Kd.R_reads' HO203.out).2.1); rintro e w40 ⟨v206, rfl, ho0, hb⟩; refine ⟨_, rfl, ?_⟩; have n0_ := Aside0.mk (Kd.R_below (by (with_reducible repeat (first | apply Kd.R_alloc | apply Kd.R_drewN | apply Kd.R_drew)); exact HO203.out) hb); have n1_ := Aside0.mk (Kd.R_lower ho0 (below_size (by repeat (first | (with_reducible first | exact HB.out | apply below_alloc | apply pw_below_drewN | apply below_drew1) | exact HB.out)))); have n2_ := Aside0.mk (below_step (by repeat (first | (with_reducible first | exact HB.out | apply below_alloc | apply pw_below_drewN | apply below_drew1) | exact HB.out)) hb); clear HO203; clear HB; have HO203 := n0_; have HO207 := n1_; have HB := n2_; clear n0_ n1_ n2_; (try clear hb); (try clear hb2); (try clear hk); (try clear hi); (try clear ho0)) | ((with_reducible refine gate_dst (N := 1) rfl ?_); (try (refine gate_guard (by rfl) ?_; dsimp only)); refine box_event ?hg (N := 1) ?hd (cs := #[.int .i64 0, .slice none 0 0]) (t := 31) ?hr ?_; (case hd => rfl); (case hg => rfl); (case hr => first | (go_simp; done) | (go_simp; rfl)); intro gb209 hg w41 hbox hb; have n0_ := Aside0.mk (Kd.R_below (by (with_reducible repeat (first | apply Kd.R_alloc | apply Kd.R_drewN | apply Kd.R_drew)); exact HO203.out) hb); have n1_ := Aside0.mk (Kd.R_below (by (with_reducible repeat (first | apply Kd.R_alloc | apply Kd.R_drewN | apply Kd.R_drew)); exact HO207.out) hb); have n2_ := Aside0.mk (below_step (by repeat (first | (with_reducible first | exact HB.out | apply below_alloc | apply pw_below_drewN | apply below_drew1) | exact HB.out)) hb); have n3_ := Aside0.mk (hbox); have n4_ := Aside0.mk ((by rw [hg]; exact (below_size (by repeat (first | (with_reducible first | exact HB.out | apply below_alloc | apply pw_below_drewN | apply below_drew1) | exact HB.out))) : w.heap.size ≤ gb209)); have n5_ := Aside0.mk ((by rw [hg]; exact (below_size (by repeat (first | (with_reducible first | exact HB.out | apply below_alloc | apply pw_below_drewN | apply below_drew1) | exact HB.out))) : w.heap.size ≤ gb209)); clear HO203; clear HO207; clear HB; have HO203 := n0_; have HO207 := n1_; have HB := n2_; have BK209 := n3_; have GW209 := n4_; have GE209 := n5_; clear n0_ n1_ n2_ n3_ n4_ n5_; clear hb hbox hg; have hcz42_0 : w41.cell? ⟨gb209, 0, none⟩ = some (.int .i64 0) := (blk_cell BK209.out 0).trans rfl; have hcz42_1 : w41.cell? ⟨gb209, 1, none⟩ = some (.slice none 0 0) := (blk_cell BK209.out 1).trans rfl; have hfz42_0 := blk_frozen BK209.out 0; have hfz42_1 := blk_frozen BK209.out 1; obtain ⟨Ao43, co43, eo43⟩ := Kd.R_slice HO207.out; subst eo43) | ((with_reducible refine gate_callee (f := 45) rfl ?_); refine goesL_ (some 17) rfl rfl Try.func45 (by kernel_rfl) rfl #[.agg #[.int .i64 t204, .slice Ao43 t205.length co43], .bool true] rfl (by (try simp only [List.map_toArray, List.map_cons, List.map_nil]); first | done | rfl | (simp only [List.length_drop, List.length_take]; rfl)) ?_; (with_reducible refine (words_Up.calls k t204 _ _ t205 true t210 t211 true t215 _ ?side1 ?side2 A2.out).mono ?_); (case side1 => refine (Kd.R_reads' (e := 22) (base := w.heap.size) (ok := fun k_ => True) (n := t205.length) (c := co43) ?_).2.2; exact (by (with_reducible repeat (first | apply Kd.R_alloc | apply Kd.R_drewN | apply Kd.R_drew)); exact (Kd.R_mono (Kd.R_far (p := ⟨gb209, 1, none⟩) (Kd.R_far (p := ⟨gb209, 0, none⟩) (Kd.R_types HO207.out BK209.out (by decide)) (fun _ hk => hk.2) (.int .i64 t204)) (fun _ hk => hk.2) (.slice Ao43 t205.length co43)) (fun _ h_ => h_.1)))); (case side2 => exact (Kd.R_reads' HO207.out).2.1); rintro e w44 ⟨v212, rfl, ho0, hb⟩; refine ⟨_, rfl, ?_⟩; have n0_ := Aside0.mk (Kd.R_below (by (with_reducible repeat (first | apply Kd.R_alloc | apply Kd.R_drewN | apply Kd.R_drew)); exact (Kd.R_mono (Kd.R_far (p := ⟨gb209, 1, none⟩) (Kd.R_far (p := ⟨gb209, 0, none⟩) (Kd.R_types HO203.out BK209.out (by decide)) (fun _ hk => hk.2) (.int .i64 t204)) (fun _ hk => hk.2) (.slice Ao43 t205.length co43)) (fun _ h_ => h_.1))) hb); have n1_ := Aside0.mk (Kd.R_elder' (by (with_reducible repeat (first | apply Kd.R_alloc | apply Kd.R_drewN | apply Kd.R_drew)); exact (Kd.R_mono (Kd.R_far (p := ⟨gb209, 1, none⟩) (Kd.R_far (p := ⟨gb209, 0, none⟩) (Kd.R_types HO207.out BK209.out (by decide)) (fun _ hk => hk.2) (.int .i64 t204)) (fun _ hk => hk.2) (.slice Ao43 t205.length co43)) (fun _ h_ => h_.1))) (Kd.R_base ho0) hb); have n2_ := Aside0.mk (Kd.R_lower (Kd.R_new' ho0 (Kd.R_lt (by (with_reducible repeat (first | apply Kd.R_alloc | apply Kd.R_drewN | apply Kd.R_drew)); exact (Kd.R_mono (Kd.R_far (p := ⟨gb209, 1, none⟩) (Kd.R_far (p := ⟨gb209, 0, none⟩) (Kd.R_types HO207.out BK209.out (by decide)) (fun _ hk => hk.2) (.int .i64 t204)) (fun _ hk => hk.2) (.slice Ao43 t205.length co43)) (fun _ h_ => h_.1))))) (below_size (by repeat (first | (with_reducible first | exact HB.out | apply below_alloc | apply pw_below_drewN | apply below_drew1 | refine below_set ?_ GE209.out) | exact HB.out)))); have n3_ := Aside0.mk (blk_below (g := gb209) (o := .cells #[.int .i64 t204, .slice Ao43 t205.length co43] 31 (0, 0)) (by (with_reducible repeat (first | refine blk_drewN ?_ _ | refine blk_drew ?_ | refine blk_alloc ?_ _)); refine blk_put (cs := #[.int .i64 t204, .slice none 0 0]) ?_ 1 _ rfl; (with_reducible repeat (first | refine blk_drewN ?_ _ | refine blk_drew ?_ | refine blk_alloc ?_ _)); refine blk_put (cs := #[.int .i64 0, .slice none 0 0]) ?_ 0 _ rfl; (with_reducible repeat (first | refine blk_drewN ?_ _ | refine blk_drew ?_ | refine blk_alloc ?_ _)); exact BK209.out) hb); have n4_ := Aside0.mk (below_step (by repeat (first | (with_reducible first | exact HB.out | apply below_alloc | apply pw_below_drewN | apply below_drew1 | refine below_set ?_ GE209.out) | exact HB.out)) hb); clear HO203; clear HO207; clear BK209; clear HB; have HO203 := n0_; have HO207 := n1_; have HO213 := n2_; have BK209 := n3_; have HB := n4_; clear n0_ n1_ n2_ n3_ n4_; (try clear hb); (try clear hb2); (try clear hk); (try clear hi); (try clear ho0)) | ((with_reducible refine gate_dst (N := 3) rfl ?_); (try (refine gate_guard (by rfl) ?_; dsimp only)); refine box_event ?hg (N := 3) ?hd (cs := #[.int .i64 0, .slice none 0 0]) (t := 31) ?hr ?_; (case hd => rfl); (case hg => rfl); (case hr => first | (go_simp; done) | (go_simp; rfl)); intro gb216 hg w45 hbox hb; have n0_ := Aside0.mk (Kd.R_below (by (with_reducible repeat (first | apply Kd.R_alloc | apply Kd.R_drewN | apply Kd.R_drew)); exact HO203.out) hb); have n1_ := Aside0.mk (Kd.R_below (by (with_reducible repeat (first | apply Kd.R_alloc | apply Kd.R_drewN | apply Kd.R_drew)); exact HO207.out) hb); have n2_ := Aside0.mk (Kd.R_below (by (with_reducible repeat (first | apply Kd.R_alloc | apply Kd.R_drewN | apply Kd.R_drew)); exact HO213.out) hb); have n3_ := Aside0.mk (blk_below (g := gb209) (o := .cells #[.int .i64 t204, .slice Ao43 t205.length co43] 31 (0, 0)) (by (with_reducible repeat (first | refine blk_drewN ?_ _ | refine blk_drew ?_ | refine blk_alloc ?_ _)); exact BK209.out) hb); have n4_ := Aside0.mk (below_step (by repeat (first | (with_reducible first | exact HB.out | apply below_alloc | apply pw_below_drewN | apply below_drew1 | refine below_set ?_ GE209.out) | exact HB.out)) hb); have n5_ := Aside0.mk (hbox); have n6_ := Aside0.mk ((by rw [hg]; exact (below_size (by repeat (first | (with_reducible first | exact HB.out | apply below_alloc | apply pw_below_drewN | apply below_drew1 | refine below_set ?_ GE209.out) | exact HB.out))) : w.heap.size ≤ gb216)); have n7_ := Aside0.mk ((by rw [hg]; exact (below_size (by repeat (first | (with_reducible first | exact HB.out | apply below_alloc | apply pw_below_drewN | apply below_drew1 | refine below_set ?_ GE209.out) | exact HB.out))) : w.heap.size ≤ gb216)); have n8_ := Aside0.mk ((by rw [hg]; exact Nat.ne_of_lt (blk_lt (g := gb209) (o := .cells #[.int .i64 t204, .slice Ao43 t205.length co43] 31 (0, 0)) (by (with_reducible repeat (first | refine blk_drewN ?_ _ | refine blk_drew ?_ | refine blk_alloc ?_ _)); exact BK209.out)) : gb209 ≠ gb216)); have n9_ := Aside0.mk ((by rw [hg]; exact Nat.ne_of_gt (blk_lt (g := gb209) (o := .cells #[.int .i64 t204, .slice Ao43 t205.length co43] 31 (0, 0)) (by (with_reducible repeat (first | refine blk_drewN ?_ _ | refine blk_drew ?_ | refine blk_alloc ?_ _)); exact BK209.out)) : gb216 ≠ gb209)); clear HO203; clear HO207; clear HO213; clear BK209; clear HB; have HO203 := n0_; have HO207 := n1_; have HO213 := n2_; have BK209 := n3_; have HB := n4_; have BK216 := n5_; have GW216 := n6_; have GE216 := n7_; have NB209_216 := n8_; have NB216_209 := n9_; clear n0_ n1_ n2_ n3_ n4_ n5_ n6_ n7_ n8_ n9_; clear hb hbox hg; have hnb46 := NB216_209.out; have hnc46 := NB209_216.out; have hcz47_0 : w45.cell? ⟨gb216, 0, none⟩ = some (.int .i64 0) := (blk_cell BK216.out 0).trans rfl; have hcz47_1 : w45.cell? ⟨gb216, 1, none⟩ = some (.slice none 0 0) := (blk_cell BK216.out 1).trans rfl; have hfz47_0 := blk_frozen BK216.out 0; have hfz47_1 := blk_frozen BK216.out 1; obtain ⟨Ao48, co48, eo48⟩ := Kd.R_slice HO213.out; subst eo48) | ((with_reducible refine gate_callee (f := 46) rfl ?_); refine goesL_ (some 23) rfl rfl Try.func46 (by kernel_rfl) rfl #[.agg #[.int .i64 t210, .slice Ao48 t211.length co48]] rfl (by (try simp only [List.map_toArray, List.map_cons, List.map_nil]); first | done | rfl | (simp only [List.length_drop, List.length_take]; rfl)) ?_; (with_reducible refine (words_Ones.calls k t210 _ _ t211 t217 t218 _ ?side1 ?side2 A3.out).mono ?_); (case side1 => refine (Kd.R_reads' (e := 22) (base := w.heap.size) (ok := fun k_ => (True ∧ some k_ ≠ (.slice Ao43 t205.length co43 : Value).ownBlock)) (n := t211.length) (c := co48) ?_).2.2; exact (by (with_reducible repeat (first | apply Kd.R_alloc | apply Kd.R_drewN | apply Kd.R_drew)); exact (Kd.R_mono (Kd.R_far (p := ⟨gb216, 1, none⟩) (Kd.R_far (p := ⟨gb216, 0, none⟩) (Kd.R_types HO213.out BK216.out (by decide)) (fun _ hk => hk.2) (.int .i64 t210)) (fun _ hk => hk.2) (.slice Ao48 t211.length co48)) (fun _ h_ => h_.1)))); (case side2 => exact (Kd.R_reads' HO213.out).2.1); rintro e w49 ⟨rfl, hb⟩; refine ⟨_, rfl, ?_⟩; have n0_ := Aside0.mk (Kd.R_below (by (with_reducible repeat (first | apply Kd.R_alloc | apply Kd.R_drewN | apply Kd.R_drew)); exact (Kd.R_mono (Kd.R_far (p := ⟨gb216, 1, none⟩) (Kd.R_far (p := ⟨gb216, 0, none⟩) (Kd.R_types HO203.out BK216.out (by decide)) (fun _ hk => hk.2) (.int .i64 t210)) (fun _ hk => hk.2) (.slice Ao48 t211.length co48)) (fun _ h_ => h_.1))) hb); have n1_ := Aside0.mk (Kd.R_below (by (with_reducible repeat (first | apply Kd.R_alloc | apply Kd.R_drewN | apply Kd.R_drew)); exact (Kd.R_mono (Kd.R_far (p := ⟨gb216, 1, none⟩) (Kd.R_far (p := ⟨gb216, 0, none⟩) (Kd.R_types HO207.out BK216.out (by decide)) (fun _ hk => hk.2) (.int .i64 t210)) (fun _ hk => hk.2) (.slice Ao48 t211.length co48)) (fun _ h_ => h_.1))) hb); have n2_ := Aside0.mk (Kd.R_below (by (with_reducible repeat (first | apply Kd.R_alloc | apply Kd.R_drewN | apply Kd.R_drew)); exact (Kd.R_mono (Kd.R_far (p := ⟨gb216, 1, none⟩) (Kd.R_far (p := ⟨gb216, 0, none⟩) (Kd.R_types HO213.out BK216.out (by decide)) (fun _ hk => hk.2) (.int .i64 t210)) (fun _ hk => hk.2) (.slice Ao48 t211.length co48)) (fun _ h_ => h_.1))) hb); have n3_ := Aside0.mk (blk_below (g := gb209) (o := .cells #[.int .i64 t204, .slice Ao43 t205.length co43] 31 (0, 0)) (by (with_reducible repeat (first | refine blk_drewN ?_ _ | refine blk_drew ?_ | refine blk_alloc ?_ _)); refine blk_far ?_ NB209_216.out _; (with_reducible repeat (first | refine blk_drewN ?_ _ | refine blk_drew ?_ | refine blk_alloc ?_ _)); refine blk_far ?_ NB209_216.out _; (with_reducible repeat (first | refine blk_drewN ?_ _ | refine blk_drew ?_ | refine blk_alloc ?_ _)); exact BK209.out) hb); have n4_ := Aside0.mk (blk_below (g := gb216) (o := .cells #[.int .i64 t210, .slice Ao48 t211.length co48] 31 (0, 0)) (by (with_reducible repeat (first | refine blk_drewN ?_ _ | refine blk_drew ?_ | refine blk_alloc ?_ _)); refine blk_put (cs := #[.int .i64 t210, .slice none 0 0]) ?_ 1 _ rfl; (with_reducible repeat (first | refine blk_drewN ?_ _ | refine blk_drew ?_ | refine blk_alloc ?_ _)); refine blk_put (cs := #[.int .i64 0, .slice none 0 0]) ?_ 0 _ rfl; (with_reducible repeat (first | refine blk_drewN ?_ _ | refine blk_drew ?_ | refine blk_alloc ?_ _)); exact BK216.out) hb); have n5_ := Aside0.mk (below_step (by repeat (first | (with_reducible first | exact HB.out | apply below_alloc | apply pw_below_drewN | apply below_drew1 | refine below_set ?_ GE209.out | refine below_set ?_ GE216.out) | exact HB.out)) hb); clear HO203; clear HO207; clear HO213; clear BK209; clear BK216; clear HB; have HO203 := n0_; have HO207 := n1_; have HO213 := n2_; have BK209 := n3_; have BK216 := n4_; have HB := n5_; clear n0_ n1_ n2_ n3_ n4_ n5_; (try clear hb); (try clear hb2); (try clear hk); (try clear hi)) | ((with_reducible refine gate_callee (f := 14) rfl ?_); refine goesL_ (some 27) rfl rfl Try.func14 (by kernel_rfl) rfl #[.int .u64 12, .int .u64 10] rfl (by (try simp only [List.map_toArray, List.map_cons, List.map_nil]); first | done | rfl | (simp only [List.length_drop, List.length_take]; rfl)) ?_; (with_reducible refine (words_Half.calls 12 10 t219 t220 _ A4.out).mono ?_); rintro e w' ⟨rfl, ⟨nd, rfl⟩⟩; refine ⟨_, rfl, ?_⟩; have hcz50_0 : w49.cell? ⟨gb209, 0, none⟩ = some (.int .i64 t204) := (blk_cell BK209.out 0).trans rfl; have hcz50_1 : w49.cell? ⟨gb209, 1, none⟩ = some (.slice Ao43 t205.length co43) := (blk_cell BK209.out 1).trans rfl; have hfz50_0 := blk_frozen BK209.out 0; have hfz50_1 := blk_frozen BK209.out 1; have p221 : 0 ≤ (0 : Int) := (by omega); have q221 : 0 < (t205.length : Int) := of_decide_eq_true (by first | (with_reducible assumption) | assumption); obtain ⟨ad221, e221, hx221_0⟩ := Kd.at_int (Kd.R_reads' HO207.out).2.2 0 p221 q221; cases e221; have qi221 : (0 < t205.length) = True := eq_true (by omega); (try rw [show ((0 : Int)).toNat = 0 from rfl] at hx221_0); (try rw [Addr.add_zero'] at hx221_0); replace p221 := eq_true p221; replace q221 := eq_true q221; have hcz51_0 : w49.cell? ⟨gb216, 0, none⟩ = some (.int .i64 t210) := (blk_cell BK216.out 0).trans rfl; have hcz51_1 : w49.cell? ⟨gb216, 1, none⟩ = some (.slice Ao48 t211.length co48) := (blk_cell BK216.out 1).trans rfl; have hfz51_0 := blk_frozen BK216.out 0; have hfz51_1 := blk_frozen BK216.out 1) | (go_at_call 27; (with_reducible refine (words_Get.calls t210 _ _ t211 1 true _ ?side1 ?side2 A14.out).mono ?_); (case side1 => repeat (first | exact (Kd.R_reads' HO213.out).2.2 | (with_reducible refine Kd.C_alloc ?_ _) | (with_reducible refine Kd.C_drewN ?_ _) | (with_reducible refine Kd.C_drew ?_))); (case side2 => exact (Kd.R_reads' HO213.out).2.1); rintro e w52 ⟨rfl, hb⟩; have n0_ := Aside0.mk (Kd.R_below (by (with_reducible repeat (first | apply Kd.R_alloc | apply Kd.R_drewN | apply Kd.R_drew)); exact HO203.out) hb); have n1_ := Aside0.mk (Kd.R_below (by (with_reducible repeat (first | apply Kd.R_alloc | apply Kd.R_drewN | apply Kd.R_drew)); exact HO207.out) hb); have n2_ := Aside0.mk (Kd.R_below (by (with_reducible repeat (first | apply Kd.R_alloc | apply Kd.R_drewN | apply Kd.R_drew)); exact HO213.out) hb); have n3_ := Aside0.mk (blk_below (g := gb209) (o := .cells #[.int .i64 t204, .slice (some ad221) t205.length co43] 31 (0, 0)) (by (with_reducible repeat (first | refine blk_drewN ?_ _ | refine blk_drew ?_ | refine blk_alloc ?_ _)); exact BK209.out) hb); have n4_ := Aside0.mk (blk_below (g := gb216) (o := .cells #[.int .i64 t210, .slice Ao48 t211.length co48] 31 (0, 0)) (by (with_reducible repeat (first | refine blk_drewN ?_ _ | refine blk_drew ?_ | refine blk_alloc ?_ _)); exact BK216.out) hb); have n5_ := Aside0.mk (below_step (by repeat (first | (with_reducible first | exact HB.out | apply below_alloc | apply pw_below_drewN | apply below_drew1 | refine below_set ?_ GE209.out | refine below_set ?_ GE216.out) | exact HB.out)) hb); clear HO203; clear HO207; clear HO213; clear BK209; clear BK216; clear HB; have HO203 := n0_; have HO207 := n1_; have HO213 := n2_; have BK209 := n3_; have BK216 := n4_; have HB := n5_; clear n0_ n1_ n2_ n3_ n4_ n5_; (try clear hb); (try clear hb2); (try clear hk); (try clear hi); have hcz53_0 : w52.cell? ⟨gb216, 0, none⟩ = some (.int .i64 t210) := (blk_cell BK216.out 0).trans rfl; have hcz53_1 : w52.cell? ⟨gb216, 1, none⟩ = some (.slice Ao48 t211.length co48) := (blk_cell BK216.out 1).trans rfl; have hfz53_0 := blk_frozen BK216.out 0; have hfz53_1 := blk_frozen BK216.out 1) | (go_at_call 27; (with_reducible refine (words_Get.calls t210 _ _ t211 2 false _ ?side1 ?side2 A16.out).mono ?_); (case side1 => repeat (first | exact (Kd.R_reads' HO213.out).2.2 | (with_reducible refine Kd.C_alloc ?_ _) | (with_reducible refine Kd.C_drewN ?_ _) | (with_reducible refine Kd.C_drew ?_))); (case side2 => exact (Kd.R_reads' HO213.out).2.1); rintro e w54 ⟨rfl, hb⟩; have n0_ := Aside0.mk (Kd.R_below (by (with_reducible repeat (first | apply Kd.R_alloc | apply Kd.R_drewN | apply Kd.R_drew)); exact HO203.out) hb); have n1_ := Aside0.mk (Kd.R_below (by (with_reducible repeat (first | apply Kd.R_alloc | apply Kd.R_drewN | apply Kd.R_drew)); exact HO207.out) hb); have n2_ := Aside0.mk (Kd.R_below (by (with_reducible repeat (first | apply Kd.R_alloc | apply Kd.R_drewN | apply Kd.R_drew)); exact HO213.out) hb); have n3_ := Aside0.mk (blk_below (g := gb209) (o := .cells #[.int .i64 t204, .slice (some ad221) t205.length co43] 31 (0, 0)) (by (with_reducible repeat (first | refine blk_drewN ?_ _ | refine blk_drew ?_ | refine blk_alloc ?_ _)); exact BK209.out) hb); have n4_ := Aside0.mk (blk_below (g := gb216) (o := .cells #[.int .i64 t210, .slice Ao48 t211.length co48] 31 (0, 0)) (by (with_reducible repeat (first | refine blk_drewN ?_ _ | refine blk_drew ?_ | refine blk_alloc ?_ _)); exact BK216.out) hb); have n5_ := Aside0.mk (below_step (by repeat (first | (with_reducible first | exact HB.out | apply below_alloc | apply pw_below_drewN | apply below_drew1 | refine below_set ?_ GE209.out | refine below_set ?_ GE216.out) | exact HB.out)) hb); clear HO203; clear HO207; clear HO213; clear BK209; clear BK216; clear HB; have HO203 := n0_; have HO207 := n1_; have HO213 := n2_; have BK209 := n3_; have BK216 := n4_; have HB := n5_; clear n0_ n1_ n2_ n3_ n4_ n5_; (try clear hb); (try clear hb2); (try clear hk); (try clear hi)))
                          go_ret
                          exact ⟨by first | rfl | (simp [errW_none, errW_some] <;> rfl) | (simp [*, errW_none, errW_some] <;> rfl), by repeat (first | (with_reducible first | exact HB.out | apply below_alloc | apply pw_below_drewN | apply below_drew1 | refine below_set ?_ GE209.out | refine below_set ?_ GE216.out) | exact HB.out)⟩
                        · rw [if_neg c36] at H
                          exact absurd (Option.some.inj H) (by rw [hrt_]; decide)
                    · replace c15 := Bool.eq_false_iff.mpr c15
                      subst c15
                      have H1 : (some false) = some r := by rw [if_neg (show ¬ (false = true) by decide)] at H; exact H
                      exact absurd (Option.some.inj H1) (by rw [hrt_]; decide)
                  · rw [if_neg c13] at H
                    exact absurd (Option.some.inj H) (by rw [hrt_]; decide)
                · replace c12 := Bool.eq_false_iff.mpr c12
                  subst c12
                  have H1 : (some false) = some r := by rw [if_neg (show ¬ (false = true) by decide)] at H; exact H
                  exact absurd (Option.some.inj H1) (by rw [hrt_]; decide)
              · rw [if_neg c11] at H
                exact absurd (Option.some.inj H) (by rw [hrt_]; decide)
            · rw [if_neg c10] at H
              exact absurd H (by simp)
          · rw [if_neg c9] at H
            exact absurd (Option.some.inj H) (by rw [hrt_]; decide)
        · rw [if_neg c8] at H
          exact absurd (Option.some.inj H) (by rw [hrt_]; decide)
      · rw [if_neg c7] at H
        exact absurd (Option.some.inj H) (by rw [hrt_]; decide)
    · rw [if_neg c6] at H
      exact absurd (Option.some.inj H) (by rw [hrt_]; decide)
  · rw [if_neg c5] at H
    exact absurd (Option.some.inj H) (by rw [hrt_]; decide)
end Go.Proofs.Ytlghmadoogblcaa.PW
end
section
namespace Go.Proofs.Ytlghmadoogblcaa.Alive
open Go.RowKit Go.Proofs.Ytlghmadoogblcaa.PW Go.Proofs.YtlghmadoogblcaaW.PrintWords Go.Proofs.YtlghmadoogblcaaW.PrintLast Go.Proofs.YtlghmadoogblcaaW.PrintMore
set_option maxRecDepth 100000
theorem alive_true : vivariumlaw02_alive.f 100 = some true := by decide +kernel
end Go.Proofs.Ytlghmadoogblcaa.Alive
end
section
namespace Go.Proofs.Ytlghmadoogblcaa.MakesWalk
open Go Go.RowKit Go.Proofs.YtlghmadoogblcaaW.PrintWords Go.Proofs.YtlghmadoogblcaaW.PrintLast Go.Proofs.YtlghmadoogblcaaW.PrintMore Go.Proofs.Ytlghmadoogblcaa.PW Go.Proofs.Ytlghmadoogblcaa.PB Go.Proofs.Ytlghmadoogblcaa.Book Go.Proofs.Ytlghmadoogblcaa.Lent Go.Proofs.Ytlghmadoogblcaa.Pile
set_option linter.unusedVariables false
set_option linter.unusedSimpArgs false
theorem Kd.own_C {w : World} {base n c : Nat} {A : Option Addr} {xs : List Int} (h : w.ownsRow base 22 1 (.slice A n c) xs.length (nums .u64 xs)) : Kd.C (Kd.int .u64) w A xs.length xs := by
  obtain ⟨A', c', e, _, hC⟩ := own_C_ h
  cases e
  exact hC
set_option maxHeartbeats 8000000 in
set_option maxRecDepth 100000 in
theorem core (k : Nat) (n : Int) (A : Option Addr) (c : Nat) (bs nb : List Bool) (Y1 Y2 Y3 : List Int) (m1 m2 m3 e1 e2 e3 : Int) (w : World) (hC : Kd.C Kd.bool w A bs.length bs) (hl : bs.length ≤ c) (hm : bs.length ≤ 140737488351232) (hk : 17592186043906 < k)
    (hal : vivariumlaw02_alive.f k = some true) (hnb : bs.map (!·) = nb) (y1 : Y1.length ≤ 2000000) (y2 : Y2.length ≤ 2000000) (y3 : Y3.length ≤ 2000000)
    (n1 : words_New.f n = some (m1, Y1, e1)) (n2 : vivariumref02_New.f k n = some (m1, Y1, e1)) (v1 : words_Valid.f m1 Y1 = some true)
    (o1 : words_Of.f k bs = some (m2, Y2, e2)) (o2 : vivariumref02_Of.f k bs = some (m2, Y2, e2)) (v2 : words_Valid.f m2 Y2 = some true)
    (o3 : words_Of.f k nb = some (m3, Y3, e3)) (o4 : vivariumref02_Of.f k nb = some (m3, Y3, e3)) :
    Calls Try.prog 6 #[.int .i64 n, .slice A bs.length c] w fun e w' => e = .returned (.bool true) ∧ Below w.heap.size w w' := by
  have HC := Aside0.mk hC; have HL := Aside0.mk hl; have HM := Aside0.mk hm; have HK := Aside0.mk hk; have HA := Aside0.mk hal; have HNB := Aside0.mk hnb; have HY1 := Aside0.mk y1; have HY2 := Aside0.mk y2; have HY3 := Aside0.mk y3
  have N1 := Aside0.mk n1; have N2 := Aside0.mk n2; have V1 := Aside0.mk v1; have O1 := Aside0.mk o1; have O2 := Aside0.mk o2; have V2 := Aside0.mk v2; have O3 := Aside0.mk o3; have O4 := Aside0.mk o4
  have HLN := Aside0.mk (show nb.length = bs.length by rw [← hnb, List.length_map])
  have E0 := At.mk (n := 0)
  have hu := Try.underlying31
  have hu2 := Try.underlying35
  clear hC hl hk hal hnb y1 y2 y3 n1 n2 v1 o1 o2 v2 o3 o4
  go_enter Try.func6, Try.ntmps6
  go_wp2_with (first
    | (go_at_call 13; have E_ := E0; with_reducible refine (vivariumlaw02_alive.calls k true _ rfl HA.out).mono ?_; rintro er_ v1 ⟨rfl, hb⟩; have HB := Aside0.mk hb; clear hb E_ E0; have E1 := At.mk (n := 1))
    | (at_builtin; have E_ := E1; refine print_append_row_of (w0 := w) (W := v1) Value.bool false w.heap.size rfl (.tmp 23) (.tmp 24) 35 4 (.bool false) 1 rfl Try.underlying35 (by kernel_rfl) rfl (by decide) (fun _ => rfl) (.slice none 0 0) [] bs A bs.length c rfl rfl (own_nil _ _ _ _) (c_reads_bit (Kd.C_below HC.out HB.out)) HB.out HB.out.size ?c1 ?_; (case c1 => go_light; have := HM.out; simp; omega); intro f1 u1 ho_ hb_ hg_ hat_; clear hg_ hat_ HB E1 E_; have HB := Aside0.mk hb_; have HO := Aside0.mk ho_; clear hb_ ho_; have E2 := At.mk (n := 2))
    | (at_builtin; have E_ := E2; refine print_append_row_of (w0 := w) (W := u1.alloc (.cells #[.bool true, .bool true] 4)) Value.bool false w.heap.size rfl (.tmp 26) (.tmp 27) 35 4 (.bool false) 1 rfl Try.underlying35 (by kernel_rfl) rfl (by decide) (fun _ => rfl) f1 bs [true, true] (some ⟨u1.heap.size, 0, none⟩) 2 2 rfl rfl (own_alloc HO.out _) (own_reads_of' (own_lit_of (enc := Value.bool) u1 w.heap.size 4 [true, true] HB.out.size (by simp))) (below_alloc HB.out _) (by have := HB.out.size; simp; omega) ?c1 ?_; (case c1 => go_light; have := HM.out; simp; omega); intro f2 u2 ho_ hb_ hg_ hat_; clear hg_ hat_ HB HO E2 E_; have ho2 : u2.ownsRow w.heap.size 4 1 f2 (bs.length + 2) (bools (bs ++ [true, true])) := (by simpa [bools, encs] using ho_); obtain ⟨g, cp, e_, _⟩ := ho2.form (by omega); subst e_; have hcp : bs.length + 2 ≤ cp := own_le ho2; have P2 := Pile0.bits (l := bs ++ [true, true]) hb_ (by simpa [bools, encs] using ho_); clear ho_ hb_ ho2; have P := Aside0.mk P2; clear P2; have E3 := At.mk (n := 3))
    | (go_at_call 19; have E_ := E3; have P1 := (Pile.make P.out (u2.heap.size) rfl); with_reducible refine (vivariumref02_New.calls k n m1 Y1 e1 _ N2.out).mono ?_; rintro er_ v4 ⟨t_, rfl, hR, hb⟩; have P2 := P1.told hb hR; obtain ⟨A_0, c_0, rfl, _, _⟩ := Kd.R_reads hR; clear hb hR; clear P P1 E3 E_; have P := Aside0.mk P2; clear P2; have E4 := At.mk (n := 4))
    | (go_at_call 17; have E_ := E4; have P1 := (P.out.push [.int .i64 m1, .slice A_0 Y1.length c_0] (v4.heap.size) rfl); with_reducible refine (words_New.calls n m1 Y1 e1 _ N1.out).mono ?_; rintro er_ v5 ⟨t_, rfl, hR, hb⟩; have P2 := P1.told hb hR; obtain ⟨A_1, c_1, rfl, _, _⟩ := Kd.R_reads hR; clear hb hR; clear P P1 E4 E_; have P := Aside0.mk P2; clear P2; have E5 := At.mk (n := 5); have z_ := P.out.p0.at_ (i := 0) rfl; have q_want := z_.1; have x_want0 := z_.2 0 _ rfl; have x_want1 := z_.2 1 _ rfl; clear z_)
    | (go_at_call 20; have E_ := E5; have P1 := (P.out.push [.int .i64 m1, .slice A_1 Y1.length c_1] (v5.heap.size) rfl); with_reducible refine (P1.adds k 1 0 m1 e1 A_1 A_0 c_1 c_0 Y1 rfl rfl rfl (by simp) HY1.out (by have := HY1.out; have := HK.out; omega)).mono ?_; rintro er_ v6 ⟨rfl, gv_, wv_, P2⟩; skip; clear q_want x_want0 x_want1; clear P P1 E5 E_; have P := Aside0.mk P2; clear P2; have E6 := At.mk (n := 6); have z_ := P.out.p0.at_ (i := 0) rfl; have q_want := z_.1; have x_want0 := z_.2 0 _ rfl; have x_want1 := z_.2 1 _ rfl; clear z_; have z_ := P.out.p0.at_ (i := 1) rfl; have q_r := z_.1; have x_r0 := z_.2 0 _ rfl; have x_r1 := z_.2 1 _ rfl; clear z_)
    | (go_at_call 17; have E_ := E6; have P1 := P.out; with_reducible refine (words_New.calls n m1 Y1 e1 _ N1.out).mono ?_; rintro er_ v7 ⟨t_, rfl, hR, hb⟩; have P2 := P1.told hb hR; obtain ⟨A_2, c_2, rfl, _, _⟩ := Kd.R_reads hR; clear hb hR; clear q_want x_want0 x_want1; clear q_r x_r0 x_r1; clear P P1 E6 E_; have P := Aside0.mk P2; clear P2; have E7 := At.mk (n := 7); have z_ := P.out.p0.at_ (i := 0) rfl; have q_want := z_.1; have x_want0 := z_.2 0 _ rfl; have x_want1 := z_.2 1 _ rfl; clear z_; have z_ := P.out.p0.at_ (i := 1) rfl; have q_r := z_.1; have x_r0 := z_.2 0 _ rfl; have x_r1 := z_.2 1 _ rfl; clear z_)
    | (go_at_call 20; have E_ := E7; have P1 := (P.out.push [.int .i64 m1, .slice A_2 Y1.length c_2] (v7.heap.size) rfl); with_reducible refine (P1.adds k 2 0 m1 e1 A_2 A_0 c_2 c_0 Y1 rfl rfl rfl (by simp) HY1.out (by have := HY1.out; have := HK.out; omega)).mono ?_; rintro er_ v8 ⟨rfl, gv_, wv_, P2⟩; skip; clear q_want x_want0 x_want1; clear q_r x_r0 x_r1; clear P P1 E7 E_; have P := Aside0.mk P2; clear P2; have E8 := At.mk (n := 8); have z_ := P.out.p0.at_ (i := 0) rfl; have q_want := z_.1; have x_want0 := z_.2 0 _ rfl; have x_want1 := z_.2 1 _ rfl; clear z_; have z_ := P.out.p0.at_ (i := 1) rfl; have q_r := z_.1; have x_r0 := z_.2 0 _ rfl; have x_r1 := z_.2 1 _ rfl; clear z_; have z_ := P.out.p0.at_ (i := 2) rfl; have q_s := z_.1; have x_s0 := z_.2 0 _ rfl; have x_s1 := z_.2 1 _ rfl; clear z_)
    | (go_at_call 21; have E_ := E8; have P1 := P.out; with_reducible refine (vivariumref02_Of.calls k A c bs m2 Y2 e2 _ (Kd.C_below HC.out P1.p0.be) HL.out O2.out).mono ?_; rintro er_ v9 ⟨t_, rfl, hR, hb⟩; have P2 := P1.told hb hR; obtain ⟨A_3, c_3, rfl, _, _⟩ := Kd.R_reads hR; clear hb hR; clear q_want x_want0 x_want1; clear q_r x_r0 x_r1; clear q_s x_s0 x_s1; clear P P1 E8 E_; have P := Aside0.mk P2; clear P2; have E9 := At.mk (n := 9); have z_ := P.out.p0.at_ (i := 0) rfl; have q_want := z_.1; have x_want0 := z_.2 0 _ rfl; have x_want1 := z_.2 1 _ rfl; clear z_; have z_ := P.out.p0.at_ (i := 1) rfl; have q_r := z_.1; have x_r0 := z_.2 0 _ rfl; have x_r1 := z_.2 1 _ rfl; clear z_; have z_ := P.out.p0.at_ (i := 2) rfl; have q_s := z_.1; have x_s0 := z_.2 0 _ rfl; have x_s1 := z_.2 1 _ rfl; clear z_)
    | (go_at_call 18; have E_ := E9; have P1 := (P.out.push [.int .i64 m2, .slice A_3 Y2.length c_3] (v9.heap.size) rfl); with_reducible refine (words_Of.calls k (some ⟨g, 0, none⟩) cp bs m2 Y2 e2 _ (bit_take (bs := bs) (cs := [true, true]) P1.p0.bit1) (by omega) O1.out).mono ?_; rintro er_ v10 ⟨t_, rfl, hR, hb⟩; have P2 := P1.told hb hR; obtain ⟨A_4, c_4, rfl, _, _⟩ := Kd.R_reads hR; clear hb hR; clear q_want x_want0 x_want1; clear q_r x_r0 x_r1; clear q_s x_s0 x_s1; clear P P1 E9 E_; have P := Aside0.mk P2; clear P2; have E10 := At.mk (n := 10); have z_ := P.out.p0.at_ (i := 0) rfl; have q_want := z_.1; have x_want0 := z_.2 0 _ rfl; have x_want1 := z_.2 1 _ rfl; clear z_; have z_ := P.out.p0.at_ (i := 1) rfl; have q_r := z_.1; have x_r0 := z_.2 0 _ rfl; have x_r1 := z_.2 1 _ rfl; clear z_; have z_ := P.out.p0.at_ (i := 2) rfl; have q_s := z_.1; have x_s0 := z_.2 0 _ rfl; have x_s1 := z_.2 1 _ rfl; clear z_; have z_ := P.out.p0.at_ (i := 3) rfl; have q_of := z_.1; have x_of0 := z_.2 0 _ rfl; have x_of1 := z_.2 1 _ rfl; clear z_)
    | (go_at_call 20; have E_ := E10; have P1 := (P.out.push [.int .i64 m2, .slice A_4 Y2.length c_4] (v10.heap.size) rfl); with_reducible refine (P1.adds k 4 3 m2 e2 A_4 A_3 c_4 c_3 Y2 rfl rfl rfl (by simp) HY2.out (by have := HY2.out; have := HK.out; omega)).mono ?_; rintro er_ v11 ⟨rfl, gv_, wv_, P2⟩; skip; clear q_want x_want0 x_want1; clear q_r x_r0 x_r1; clear q_s x_s0 x_s1; clear q_of x_of0 x_of1; clear P P1 E10 E_; have P := Aside0.mk P2; clear P2; have E11 := At.mk (n := 11); have z_ := P.out.p0.at_ (i := 0) rfl; have q_want := z_.1; have x_want0 := z_.2 0 _ rfl; have x_want1 := z_.2 1 _ rfl; clear z_; have z_ := P.out.p0.at_ (i := 1) rfl; have q_r := z_.1; have x_r0 := z_.2 0 _ rfl; have x_r1 := z_.2 1 _ rfl; clear z_; have z_ := P.out.p0.at_ (i := 2) rfl; have q_s := z_.1; have x_s0 := z_.2 0 _ rfl; have x_s1 := z_.2 1 _ rfl; clear z_; have z_ := P.out.p0.at_ (i := 3) rfl; have q_of := z_.1; have x_of0 := z_.2 0 _ rfl; have x_of1 := z_.2 1 _ rfl; clear z_; have z_ := P.out.p0.at_ (i := 4) rfl; have q_t := z_.1; have x_t0 := z_.2 0 _ rfl; have x_t1 := z_.2 1 _ rfl; clear z_)
    | (go_at_call 18; have E_ := E11; have P1 := P.out; with_reducible refine (words_Of.calls k (some ⟨g, 0, none⟩) cp bs m2 Y2 e2 _ (bit_take (bs := bs) (cs := [true, true]) P1.p0.bit1) (by omega) O1.out).mono ?_; rintro er_ v12 ⟨t_, rfl, hR, hb⟩; have P2 := P1.told hb hR; obtain ⟨A_5, c_5, rfl, _, _⟩ := Kd.R_reads hR; clear hb hR; clear q_want x_want0 x_want1; clear q_r x_r0 x_r1; clear q_s x_s0 x_s1; clear q_of x_of0 x_of1; clear q_t x_t0 x_t1; clear P P1 E11 E_; have P := Aside0.mk P2; clear P2; have E12 := At.mk (n := 12); have z_ := P.out.p0.at_ (i := 0) rfl; have q_want := z_.1; have x_want0 := z_.2 0 _ rfl; have x_want1 := z_.2 1 _ rfl; clear z_; have z_ := P.out.p0.at_ (i := 1) rfl; have q_r := z_.1; have x_r0 := z_.2 0 _ rfl; have x_r1 := z_.2 1 _ rfl; clear z_; have z_ := P.out.p0.at_ (i := 2) rfl; have q_s := z_.1; have x_s0 := z_.2 0 _ rfl; have x_s1 := z_.2 1 _ rfl; clear z_; have z_ := P.out.p0.at_ (i := 3) rfl; have q_of := z_.1; have x_of0 := z_.2 0 _ rfl; have x_of1 := z_.2 1 _ rfl; clear z_; have z_ := P.out.p0.at_ (i := 4) rfl; have q_t := z_.1; have x_t0 := z_.2 0 _ rfl; have x_t1 := z_.2 1 _ rfl; clear z_)
    | (go_at_call 20; have E_ := E12; have P1 := (P.out.push [.int .i64 m2, .slice A_5 Y2.length c_5] (v12.heap.size) rfl); with_reducible refine (P1.adds k 5 3 m2 e2 A_5 A_3 c_5 c_3 Y2 rfl rfl rfl (by simp) HY2.out (by have := HY2.out; have := HK.out; omega)).mono ?_; rintro er_ v13 ⟨rfl, gv_, wv_, P2⟩; skip; clear q_want x_want0 x_want1; clear q_r x_r0 x_r1; clear q_s x_s0 x_s1; clear q_of x_of0 x_of1; clear q_t x_t0 x_t1; clear P P1 E12 E_; have P := Aside0.mk P2; clear P2; have E13 := At.mk (n := 13); have z_ := P.out.p0.at_ (i := 0) rfl; have q_want := z_.1; have x_want0 := z_.2 0 _ rfl; have x_want1 := z_.2 1 _ rfl; clear z_; have z_ := P.out.p0.at_ (i := 1) rfl; have q_r := z_.1; have x_r0 := z_.2 0 _ rfl; have x_r1 := z_.2 1 _ rfl; clear z_; have z_ := P.out.p0.at_ (i := 2) rfl; have q_s := z_.1; have x_s0 := z_.2 0 _ rfl; have x_s1 := z_.2 1 _ rfl; clear z_; have z_ := P.out.p0.at_ (i := 3) rfl; have q_of := z_.1; have x_of0 := z_.2 0 _ rfl; have x_of1 := z_.2 1 _ rfl; clear z_; have z_ := P.out.p0.at_ (i := 4) rfl; have q_t := z_.1; have x_t0 := z_.2 0 _ rfl; have x_t1 := z_.2 1 _ rfl; clear z_; have z_ := P.out.p0.at_ (i := 5) rfl; have q_u := z_.1; have x_u0 := z_.2 0 _ rfl; have x_u1 := z_.2 1 _ rfl; clear z_; have y_f0 := bit_cell P.out.p0.bit1 bs.length true (by simp); have y_f1 := bit_cell P.out.p0.bit1 (bs.length + 1) true (by simp))
    | (go_at_call 22; have E_ := E13; have P1 := P.out; with_reducible refine (words_Valid.calls m1 A_1 c_1 Y1 true _ (Kd.own_C (P1.own 1 _ rfl)) (own_le (P1.own 1 _ rfl)) V1.out).mono ?_; rintro er_ v14 ⟨rfl, hb⟩; have P2 := P1.on hb; clear hb; clear q_want x_want0 x_want1; clear q_r x_r0 x_r1; clear q_s x_s0 x_s1; clear q_of x_of0 x_of1; clear q_t x_t0 x_t1; clear q_u x_u0 x_u1; clear P P1 E13 E_; have P := Aside0.mk P2; clear P2; have E14 := At.mk (n := 14); have z_ := P.out.p0.at_ (i := 0) rfl; have q_want := z_.1; have x_want0 := z_.2 0 _ rfl; have x_want1 := z_.2 1 _ rfl; clear z_; have z_ := P.out.p0.at_ (i := 1) rfl; have q_r := z_.1; have x_r0 := z_.2 0 _ rfl; have x_r1 := z_.2 1 _ rfl; clear z_; have z_ := P.out.p0.at_ (i := 2) rfl; have q_s := z_.1; have x_s0 := z_.2 0 _ rfl; have x_s1 := z_.2 1 _ rfl; clear z_; have z_ := P.out.p0.at_ (i := 3) rfl; have q_of := z_.1; have x_of0 := z_.2 0 _ rfl; have x_of1 := z_.2 1 _ rfl; clear z_; have z_ := P.out.p0.at_ (i := 4) rfl; have q_t := z_.1; have x_t0 := z_.2 0 _ rfl; have x_t1 := z_.2 1 _ rfl; clear z_; have z_ := P.out.p0.at_ (i := 5) rfl; have q_u := z_.1; have x_u0 := z_.2 0 _ rfl; have x_u1 := z_.2 1 _ rfl; clear z_)
    | (go_at_call 22; have E_ := E14; have P1 := P.out; with_reducible refine (words_Valid.calls m2 A_4 c_4 Y2 true _ (Kd.own_C (P1.own 4 _ rfl)) (own_le (P1.own 4 _ rfl)) V2.out).mono ?_; rintro er_ v15 ⟨rfl, hb⟩; have P2 := P1.on hb; clear hb; clear q_want x_want0 x_want1; clear q_r x_r0 x_r1; clear q_s x_s0 x_s1; clear q_of x_of0 x_of1; clear q_t x_t0 x_t1; clear q_u x_u0 x_u1; clear P P1 E14 E_; have P := Aside0.mk P2; clear P2; have E15 := At.mk (n := 15); have z_ := P.out.p0.at_ (i := 0) rfl; have q_want := z_.1; have x_want0 := z_.2 0 _ rfl; have x_want1 := z_.2 1 _ rfl; clear z_; have z_ := P.out.p0.at_ (i := 1) rfl; have q_r := z_.1; have x_r0 := z_.2 0 _ rfl; have x_r1 := z_.2 1 _ rfl; clear z_; have z_ := P.out.p0.at_ (i := 2) rfl; have q_s := z_.1; have x_s0 := z_.2 0 _ rfl; have x_s1 := z_.2 1 _ rfl; clear z_; have z_ := P.out.p0.at_ (i := 3) rfl; have q_of := z_.1; have x_of0 := z_.2 0 _ rfl; have x_of1 := z_.2 1 _ rfl; clear z_; have z_ := P.out.p0.at_ (i := 4) rfl; have q_t := z_.1; have x_t0 := z_.2 0 _ rfl; have x_t1 := z_.2 1 _ rfl; clear z_; have z_ := P.out.p0.at_ (i := 5) rfl; have q_u := z_.1; have x_u0 := z_.2 0 _ rfl; have x_u1 := z_.2 1 _ rfl; clear z_))
  clear q_want x_want0 x_want1
  clear q_r x_r0 x_r1
  clear q_s x_s0 x_s1
  clear q_of x_of0 x_of1
  clear q_t x_t0 x_t1
  clear q_u x_u0 x_u1
  clear y_f0 y_f1
  go_loopg [17] bs.length (fun q_ s17 wr => ∃ y : Int, s17 = .int .i64 y ∧ Aside0 (0 ≤ y ∧ y ≤ bs.length ∧ (q_ : Int) = bs.length - y) ∧ Aside0 (∀ {b : Nat} {gv wv : Value} {Z : List Ans} {ix : List Nat} {R : List (Value × List Int)} {T : List (Nat × List Value)} {L : List (Nat × Nat × List Int)}, Pile w v15 b gv wv Z ix R T L [((.slice (some ⟨g, 0, none⟩) (bs.length + 2) cp), bs ++ [true, true])] → Pile w wr b gv wv Z ix R T L [((.slice (some ⟨g, 0, none⟩) (bs.length + 2) cp), turnTo y.toNat bs ++ [true, true])]))
  case atStart => exact ⟨0, rfl, ⟨by omega, by omega, by omega⟩, ⟨fun h => h⟩⟩
  case round =>
    obtain ⟨y, rfl, HY, HT⟩ := hrel
    have PW := Aside0.mk (HT.out P.out)
    by_cases q : y < bs.length
    · have p : 0 ≤ y := HY.out.1
      obtain ⟨ad, e_, hc_⟩ := Kd.at_bool (Kd.C_below HC.out PW.out.p0.be) y p q
      subst e_
      have hx2 : rdOf false bs y = bs[y.toNat]'(by omega) := by
        unfold rdOf
        rw [List.getD_eq_getElem?_getD, List.getElem?_eq_getElem (by omega)]
        rfl
      obtain ⟨x, hx⟩ : ∃ x, rdOf false bs y = x := ⟨_, rfl⟩
      rw [hx] at hc_ hx2
      have HX := Aside0.mk hx2
      clear hx hx2
      have hlt : y.toNat < bs.length := by omega
      have z0_ : wr.cell? ⟨g, y.toNat, none⟩ = some (.bool x) := bit_cell PW.out.p0.bit1 y.toNat x (by rw [List.getElem?_append_left (by rw [turnTo_len]; exact hlt), turnTo_get hlt, HX.out])
      have z1_ := hc_
      clear hc_
      have q2 : y < (bs.length : Int) + 2 := by omega
      go_wp2
      refine start_ (n := 9) (S := fun w' => w'.cell? ⟨g, y.toNat, none⟩ = some (.bool x) ∧ w'.cell? (ad.add y.toNat) = some (.bool x)) (ds := []) #[false, false, false, false, false, false, false, false, false] (by kernel_rfl) rfl rfl ⟨z0_, z1_⟩ (fun hHeld => ?_)
      replace PW := Aside0.mk (PW.out.on (below_drew (Below.refl wr.heap.size wr)))
      replace HT := Aside0.mk (fun {b gv wv Z ix R T L} h => ((HT.out h).on (below_drew (Below.refl wr.heap.size wr)) : Pile w wr.drew b gv wv Z ix R T L _))
      clear z0_ z1_
      generalize wr.drew = wx at PW HT hHeld ⊢
      refine pure_ (i := 0) (N := (some 122)) (v := ?_) (a' := ?_) #[true, false, false, false, false, false, false, false, false] rfl rfl (by kernel_rfl) (fun _ _ _ h => h) (Or.inl ⟨by rfl, ?_⟩) ?_ ?_
      rotate_left
      · intro w'
        go_simp
        with_reducible rfl
      rotate_left
      · simp only [Act.put, List.setIfInBounds_toArray, List.set_cons_zero, List.set_cons_succ, i64_w, i32_w]
        rfl
      refine pure_ (i := 1) (N := (some 123)) (v := ?_) (a' := ?_) #[true, true, false, false, false, false, false, false, false] rfl rfl (by kernel_rfl) (fun _ _ _ h => h) (Or.inl ⟨by rfl, ?_⟩) ?_ ?_
      rotate_left
      · intro w'
        go_simp
        with_reducible rfl
      rotate_left
      · simp only [Act.put, List.setIfInBounds_toArray, List.set_cons_zero, List.set_cons_succ, i64_w, i32_w]
        rfl
      refine pure_ (i := 2) (N := (some 124)) (v := ?_) (a' := ?_) #[true, true, true, false, false, false, false, false, false] rfl rfl (by kernel_rfl) (fun _ _ _ h => h) (Or.inl ⟨by rfl, ?_⟩) ?_ ?_
      rotate_left
      · intro w'
        go_simp
        with_reducible rfl
      rotate_left
      · simp only [Act.put, List.setIfInBounds_toArray, List.set_cons_zero, List.set_cons_succ, i64_w, i32_w]
        rfl
      refine take_ (i := 3) (N := (some 125)) (v := ?_) (a' := ?_) #[true, true, true, true, false, false, false, false, false] rfl rfl (by kernel_rfl) (fun _ _ _ h => h) (Or.inl ⟨by rfl, ?_⟩) hHeld ?_ ?_
      rotate_left
      · rintro w' ⟨s0, s1⟩
        go_simp
        with_reducible rfl
      rotate_left
      · simp only [Act.put, List.setIfInBounds_toArray, List.set_cons_zero, List.set_cons_succ, i64_w, i32_w]
        rfl
      refine pure_ (i := 4) (N := (some 126)) (v := ?_) (a' := ?_) #[true, true, true, true, true, false, false, false, false] rfl rfl (by kernel_rfl) (fun _ _ _ h => h) (Or.inl ⟨by rfl, ?_⟩) ?_ ?_
      rotate_left
      · intro w'
        go_simp
        with_reducible rfl
      rotate_left
      · simp only [Act.put, List.setIfInBounds_toArray, List.set_cons_zero, List.set_cons_succ, i64_w, i32_w]
        rfl
      refine pure_ (i := 5) (N := (some 127)) (v := ?_) (a' := ?_) #[true, true, true, true, true, true, false, false, false] rfl rfl (by kernel_rfl) (fun _ _ _ h => h) (Or.inl ⟨by rfl, ?_⟩) ?_ ?_
      rotate_left
      · intro w'
        go_simp
        with_reducible rfl
      rotate_left
      · simp only [Act.put, List.setIfInBounds_toArray, List.set_cons_zero, List.set_cons_succ, i64_w, i32_w]
        rfl
      refine pure_ (i := 6) (N := (some 128)) (v := ?_) (a' := ?_) #[true, true, true, true, true, true, true, false, false] rfl rfl (by kernel_rfl) (fun _ _ _ h => h) (Or.inl ⟨by rfl, ?_⟩) ?_ ?_
      rotate_left
      · intro w'
        go_simp
        with_reducible rfl
      rotate_left
      · simp only [Act.put, List.setIfInBounds_toArray, List.set_cons_zero, List.set_cons_succ, i64_w, i32_w]
        rfl
      refine take_ (i := 7) (N := (some 129)) (v := ?_) (a' := ?_) #[true, true, true, true, true, true, true, true, false] rfl rfl (by kernel_rfl) (fun _ _ _ h => h) (Or.inl ⟨by rfl, ?_⟩) hHeld ?_ ?_
      rotate_left
      · rintro w' ⟨s0, s1⟩
        go_simp
        with_reducible rfl
      rotate_left
      · simp only [Act.put, List.setIfInBounds_toArray, List.set_cons_zero, List.set_cons_succ, i64_w, i32_w]
        rfl
      refine pure_ (i := 8) (N := (some 130)) (v := ?_) (a' := ?_) #[true, true, true, true, true, true, true, true, true] rfl rfl (by kernel_rfl) (fun _ _ _ h => h) (Or.inl ⟨by rfl, ?_⟩) ?_ ?_
      rotate_left
      · intro w'
        go_simp
        with_reducible rfl
      rotate_left
      · simp only [Act.put, List.setIfInBounds_toArray, List.set_cons_zero, List.set_cons_succ, i64_w, i32_w]
        rfl
      refine done_ (by kernel_rfl) ?_
      have fz_ : wx.frozen? ⟨g, y.toNat, none⟩ = false := (bit_frozen PW.out.p0.bit1 y.toNat)
      have z0_ := hHeld.1
      clear hHeld
      go_wp2
      go_roundg (bs.length - (y + 1).toNat)
      case measure => go_light; have := HY.out; omega
      case rel =>
        go_light
        refine ⟨y + 1, by have hw : wrap64 (y + 1) = y + 1 := (by unfold wrap64; omega); first | rfl | (rw [hw]; done) | (simp [hw]; done), ⟨by omega, by omega, by omega⟩, ⟨fun {b gv wv Z ix R T L} h => ?_⟩⟩
        have h2 := HT.out h
        have ho := bit_store (by simp [turnTo_len]) h2.p0.bit1 y (!x)
        refine Pile.bitset rfl h2 ho.2 ?_
        have e1 : (turnTo y.toNat bs ++ [true, true]).set y.toNat (!x) = turnTo (y + 1).toNat bs ++ [true, true] := by
          rw [List.set_append_left _ _ (by rw [turnTo_len]; exact hlt), HX.out, turnTo_set hlt, show (y + 1).toNat = y.toNat + 1 by omega]
        have h3 := ho.1
        rw [e1] at h3
        rwa [show (turnTo (y + 1).toNat bs ++ [true, true]).length = (turnTo y.toNat bs ++ [true, true]).length by simp [turnTo_len]]
    · have hy : y = bs.length := by have := HY.out; omega
      subst hy
      have P2 := PW.out
      rw [Int.toNat_natCast, turnTo_all, HNB.out] at P2
      clear P PW HT HY
      have P := Aside0.mk P2
      clear P2
      have E100 := At.mk (n := 100)
      go_wp2_with (first
    | (go_at_call 21; have E_ := E100; have P1 := P.out; have h_ := vivariumref02_Of.calls k (some ⟨g, 0, none⟩) cp nb m3 Y3 e3 _ (bit_take (bs := nb) (cs := [true, true]) P1.p0.bit1) (by have := HLN.out; omega) O4.out; rw [HLN.out] at h_; with_reducible refine h_.mono ?_; clear h_; rintro er_ v101 ⟨t_, rfl, hR, hb⟩; have P2 := P1.told hb hR; obtain ⟨A_6, c_6, rfl, _, _⟩ := Kd.R_reads hR; clear hb hR; clear P P1 E100 E_; have P := Aside0.mk P2; clear P2; have E101 := At.mk (n := 101); have z_ := P.out.p0.at_ (i := 0) rfl; have q_want := z_.1; have x_want0 := z_.2 0 _ rfl; have x_want1 := z_.2 1 _ rfl; clear z_; have z_ := P.out.p0.at_ (i := 1) rfl; have q_r := z_.1; have x_r0 := z_.2 0 _ rfl; have x_r1 := z_.2 1 _ rfl; clear z_; have z_ := P.out.p0.at_ (i := 2) rfl; have q_s := z_.1; have x_s0 := z_.2 0 _ rfl; have x_s1 := z_.2 1 _ rfl; clear z_; have z_ := P.out.p0.at_ (i := 3) rfl; have q_of := z_.1; have x_of0 := z_.2 0 _ rfl; have x_of1 := z_.2 1 _ rfl; clear z_; have z_ := P.out.p0.at_ (i := 4) rfl; have q_t := z_.1; have x_t0 := z_.2 0 _ rfl; have x_t1 := z_.2 1 _ rfl; clear z_; have z_ := P.out.p0.at_ (i := 5) rfl; have q_u := z_.1; have x_u0 := z_.2 0 _ rfl; have x_u1 := z_.2 1 _ rfl; clear z_)
    | (go_at_call 18; have E_ := E101; have P1 := (P.out.push [.int .i64 m3, .slice A_6 Y3.length c_6] (v101.heap.size) rfl); have h_ := words_Of.calls k (some ⟨g, 0, none⟩) cp nb m3 Y3 e3 _ (bit_take (bs := nb) (cs := [true, true]) P1.p0.bit1) (by have := HLN.out; omega) O3.out; rw [HLN.out] at h_; with_reducible refine h_.mono ?_; clear h_; rintro er_ v102 ⟨t_, rfl, hR, hb⟩; have P2 := P1.told hb hR; obtain ⟨A_7, c_7, rfl, _, _⟩ := Kd.R_reads hR; clear hb hR; clear q_want x_want0 x_want1; clear q_r x_r0 x_r1; clear q_s x_s0 x_s1; clear q_of x_of0 x_of1; clear q_t x_t0 x_t1; clear q_u x_u0 x_u1; clear P P1 E101 E_; have P := Aside0.mk P2; clear P2; have E102 := At.mk (n := 102); have z_ := P.out.p0.at_ (i := 0) rfl; have q_want := z_.1; have x_want0 := z_.2 0 _ rfl; have x_want1 := z_.2 1 _ rfl; clear z_; have z_ := P.out.p0.at_ (i := 1) rfl; have q_r := z_.1; have x_r0 := z_.2 0 _ rfl; have x_r1 := z_.2 1 _ rfl; clear z_; have z_ := P.out.p0.at_ (i := 2) rfl; have q_s := z_.1; have x_s0 := z_.2 0 _ rfl; have x_s1 := z_.2 1 _ rfl; clear z_; have z_ := P.out.p0.at_ (i := 3) rfl; have q_of := z_.1; have x_of0 := z_.2 0 _ rfl; have x_of1 := z_.2 1 _ rfl; clear z_; have z_ := P.out.p0.at_ (i := 4) rfl; have q_t := z_.1; have x_t0 := z_.2 0 _ rfl; have x_t1 := z_.2 1 _ rfl; clear z_; have z_ := P.out.p0.at_ (i := 5) rfl; have q_u := z_.1; have x_u0 := z_.2 0 _ rfl; have x_u1 := z_.2 1 _ rfl; clear z_; have z_ := P.out.p0.at_ (i := 6) rfl; have q_other := z_.1; have x_other0 := z_.2 0 _ rfl; have x_other1 := z_.2 1 _ rfl; clear z_)
    | (go_at_call 20; have E_ := E102; have P1 := (P.out.push [.int .i64 m3, .slice A_7 Y3.length c_7] (v102.heap.size) rfl); with_reducible refine (P1.adds k 7 6 m3 e3 A_7 A_6 c_7 c_6 Y3 rfl rfl rfl (by simp) HY3.out (by have := HY3.out; have := HK.out; omega)).mono ?_; rintro er_ v103 ⟨rfl, gv_, wv_, P2⟩; skip; clear q_want x_want0 x_want1; clear q_r x_r0 x_r1; clear q_s x_s0 x_s1; clear q_of x_of0 x_of1; clear q_t x_t0 x_t1; clear q_u x_u0 x_u1; clear q_other x_other0 x_other1; clear P P1 E102 E_; have P := Aside0.mk P2; clear P2; have E103 := At.mk (n := 103); have z_ := P.out.p0.at_ (i := 0) rfl; have q_want := z_.1; have x_want0 := z_.2 0 _ rfl; have x_want1 := z_.2 1 _ rfl; clear z_; have z_ := P.out.p0.at_ (i := 1) rfl; have q_r := z_.1; have x_r0 := z_.2 0 _ rfl; have x_r1 := z_.2 1 _ rfl; clear z_; have z_ := P.out.p0.at_ (i := 2) rfl; have q_s := z_.1; have x_s0 := z_.2 0 _ rfl; have x_s1 := z_.2 1 _ rfl; clear z_; have z_ := P.out.p0.at_ (i := 3) rfl; have q_of := z_.1; have x_of0 := z_.2 0 _ rfl; have x_of1 := z_.2 1 _ rfl; clear z_; have z_ := P.out.p0.at_ (i := 4) rfl; have q_t := z_.1; have x_t0 := z_.2 0 _ rfl; have x_t1 := z_.2 1 _ rfl; clear z_; have z_ := P.out.p0.at_ (i := 5) rfl; have q_u := z_.1; have x_u0 := z_.2 0 _ rfl; have x_u1 := z_.2 1 _ rfl; clear z_; have z_ := P.out.p0.at_ (i := 6) rfl; have q_other := z_.1; have x_other0 := z_.2 0 _ rfl; have x_other1 := z_.2 1 _ rfl; clear z_; have z_ := P.out.p0.at_ (i := 7) rfl; have q_v := z_.1; have x_v0 := z_.2 0 _ rfl; have x_v1 := z_.2 1 _ rfl; clear z_)
    | (go_at_call 23; have E_ := E103; have P1 := P.out; with_reducible refine (P1.stands k (by decide) (by simp) (by have := HK.out; omega)).mono ?_; rintro er_ v104 ⟨rfl, hb⟩; clear q_want x_want0 x_want1; clear q_r x_r0 x_r1; clear q_s x_s0 x_s1; clear q_of x_of0 x_of1; clear q_t x_t0 x_t1; clear q_u x_u0 x_u1; clear q_other x_other0 x_other1; clear q_v x_v0 x_v1; clear P P1 E103 E_; have HF := Aside0.mk hb; clear hb))
      go_ret
      exact ⟨rfl, HF.out⟩
theorem law (n : Int) (A : Option Addr) (c : Nat) (bs : List Bool) (w : World) (hC : Kd.C Kd.bool w A bs.length bs) (hl : bs.length ≤ c) (hm : bs.length ≤ 140737488351232) :
    Calls Try.prog 6 #[.int .i64 n, .slice A bs.length c] w fun e w' => e = .returned (.bool true) ∧ Below w.heap.size w w' := by
  obtain ⟨k, hk⟩ : ∃ k, k = 17592186043908 := ⟨_, rfl⟩
  obtain ⟨m1, Y1, e1, n1, n2, y1, v1⟩ := RefPlain.new_agree n k (by omega)
  obtain ⟨m2, Y2, e2, o1, o2, y2, v2⟩ := RefPlain.of_agree bs k (by omega)
  obtain ⟨m3, Y3, e3, o3, o4, y3, _⟩ := RefPlain.of_agree (bs.map (!·)) k (by omega)
  exact core k n A c bs _ Y1 Y2 Y3 m1 m2 m3 e1 e2 e3 w hC hl hm (by omega) (at_rounds (g := fun k => vivariumlaw02_alive.f k) (fun k => vivariumlaw02_alive.mono k) (by omega) Alive.alive_true) rfl y1 y2 y3 n1 n2 v1 o1 o2 v2 o3 o4
end Go.Proofs.Ytlghmadoogblcaa.MakesWalk
end
section
namespace Go.Proofs.Ytlghmadoogblcaa.EachWalk
open Go Go.RowKit Go.Proofs.YtlghmadoogblcaaW.PrintWords Go.Proofs.YtlghmadoogblcaaW.PrintLast Go.Proofs.YtlghmadoogblcaaW.PrintMore Go.Proofs.Ytlghmadoogblcaa.PW Go.Proofs.Ytlghmadoogblcaa.Book Go.Proofs.Ytlghmadoogblcaa.Lent Go.Proofs.Ytlghmadoogblcaa.Pile Go.Proofs.Ytlghmadoogblcaa.Rows4
set_option linter.unusedVariables false
set_option linter.unusedSimpArgs false
def rcells (l : List S31) (R : List (Value × List Int)) : Nat → List Value
  | 0 => []
  | i + 1 => rcells l R i ++ [.int .i64 (l.getD i z31).f0, (R.getD i (.bool false, [])).1]
theorem rcells_len (l : List S31) (R : List (Value × List Int)) : ∀ i, (rcells l R i).length = 2 * i
  | 0 => rfl
  | i + 1 => by
    show (rcells l R i ++ _).length = _
    rw [List.length_append, rcells_len l R i]
    simp
    omega
theorem rcells_get (l : List S31) (R : List (Value × List Int)) : ∀ (n i : Nat), i < n → (rcells l R n)[i * 2]? = some (.int .i64 (l.getD i z31).f0) ∧ (rcells l R n)[i * 2 + 1]? = some (R.getD i (.bool false, [])).1
  | n + 1, i, h => by
    show (rcells l R n ++ _)[i * 2]? = _ ∧ (rcells l R n ++ _)[i * 2 + 1]? = _
    have hl := rcells_len l R n
    by_cases e : i = n
    · subst e
      rw [List.getElem?_append_right (by omega), List.getElem?_append_right (by omega), hl, show i * 2 - 2 * i = 0 by omega, show i * 2 + 1 - 2 * i = 1 by omega]
      exact ⟨rfl, rfl⟩
    · rw [List.getElem?_append_left (by omega), List.getElem?_append_left (by omega)]
      exact rcells_get l R n i (by omega)
theorem rcells_snoc (l : List S31) (R : List (Value × List Int)) (x : Value × List Int) : ∀ i, i ≤ R.length → rcells l (R ++ [x]) i = rcells l R i
  | 0, _ => rfl
  | i + 1, h => by
    show rcells l (R ++ [x]) i ++ _ = rcells l R i ++ _
    have e : (R ++ [x]).getD i (.bool false, []) = R.getD i (.bool false, []) := by
      rw [List.getD_eq_getElem?_getD, List.getD_eq_getElem?_getD, List.getElem?_append_left (by omega)]
    rw [rcells_snoc l R x i (by omega), e]
theorem getR_last (R : List (Value × List Int)) (x : Value × List Int) : (R ++ [x]).getD R.length (.bool false, []) = x := by
  rw [List.getD_eq_getElem?_getD, List.getElem?_append_right (Nat.le_refl _), Nat.sub_self]
  rfl
theorem getR_old (R : List (Value × List Int)) (x : Value × List Int) (i : Nat) (h : i < R.length) : (R ++ [x]).getD i (.bool false, []) = R.getD i (.bool false, []) := by
  rw [List.getD_eq_getElem?_getD, List.getD_eq_getElem?_getD, List.getElem?_append_left h]
theorem rcells_C {base base2 n c : Nat} {W : World} {A : Option Addr} {l : List S31} {R : List (Value × List Int)} (ho : W.ownsRow base 31 2 (.slice A n c) n (rcells l R n)) (hn : n = l.length) (hm : l.length ≤ 9223372036854775807)
    (hr : Rws base2 W R) (hl : l.length ≤ R.length) (hR : ∀ i, i < l.length → (R.getD i (.bool false, [])).2 = (l.getD i z31).f1) : Kd.C k31 W A l.length l ∧ l.length ≤ c := by
  subst hn
  refine ⟨⟨rfl, hm, fun hn => ?_⟩, own_le ho⟩
  obtain ⟨f, cp, e, _⟩ := ho.form (by omega)
  injection e with e1 e2 e3
  subst e1
  have ad : ∀ q : Nat, (⟨f, 0, none⟩ : Addr).add q = ⟨f, q, none⟩ := fun q => by cases q <;> simp [Addr.add]
  refine ⟨⟨f, 0, none⟩, rfl, fun j p hj => ?_⟩
  obtain ⟨hjl, hp⟩ := List.getElem?_eq_some_iff.1 hj
  have e : l.getD j z31 = p := by rw [List.getD_eq_getElem?_getD, hj]; rfl
  obtain ⟨h1, h2⟩ := rcells_get l R l.length j hjl
  have hRj : R[j]? = some (R.getD j (.bool false, [])) := by
    rw [List.getD_eq_getElem?_getD, List.getElem?_eq_getElem (by omega)]
    rfl
  have h3 := hr.own j _ hRj
  rw [hR j hjl, e] at h3
  obtain ⟨Aj, cj, ev⟩ := own_slice h3
  rw [ev] at h2 h3
  have c1 := ho.cells (g := f) rfl _ _ h1
  have c2 := ho.cells (g := f) rfl _ _ h2
  rw [ad] at c1 c2
  rw [e] at c1
  refine ⟨_, rfl, k31_mk W p (own_le h3) (MakesWalk.Kd.own_C h3), fun i u hu => ?_⟩
  rw [ad]
  match i, hu with
  | 0, hu => obtain rfl := Option.some.inj hu; exact c1
  | 1, hu => obtain rfl := Option.some.inj hu; exact c2
theorem rws_grown {W W' : World} {base : Nat} {R : List (Value × List Int)} {row : Option Nat} (h : Rws base W R) (hg : W.grownBy W' row) (hr : ∀ k, row = some k → ∃ cs, W.heap[k]? = some (.cells cs 31 (0, 0))) : Rws base W' R := by
  refine ⟨fun j p hj => own_other (h.own j p hj) hg ?_, h.ap⟩
  cases hv : p.1.ownBlock with
  | none => exact .inl rfl
  | some k =>
    right
    intro ek
    obtain ⟨cs, hc⟩ := hr k ek.symm
    obtain ⟨cs', hc'⟩ := own_typed (h.own j p hj) k hv
    rw [hc] at hc'
    injection hc' with hc'
    injection hc' with _ hc'
    exact absurd hc' (by decide)
structure ES (w W : World) (b : Nat) (cs : Array Value) (R : List (Value × List Int)) : Prop where
  be : Below w.heap.size w W
  bx : W.heap[b]? = some (.cells cs 54 (0, 0))
  ge : w.heap.size ≤ b
  rows : Rws w.heap.size W R
theorem ES.on {w W W' : World} {b : Nat} {cs : Array Value} {R : List (Value × List Int)} (h : ES w W b cs R) (hb : Below W.heap.size W W') : ES w W' b cs R := ⟨below_then h.be h.be.size hb, blk_below h.bx hb, h.ge, h.rows.on hb⟩
structure EI (w W : World) (b : Nat) (cs : Array Value) (R : List (Value × List Int)) (t : Nat) (m : Int) (v : Value) (V : List Int) : Prop extends ES w W b cs R where
  tx : W.heap[t]? = some (.cells #[.int .i64 m, v] 31 (0, 0))
  own : W.ownsRow w.heap.size 22 1 v V.length (nums .u64 V)
section
variable {w W W' : World} {b t : Nat} {cs : Array Value} {R : List (Value × List Int)} {m : Int} {v : Value} {V : List Int}
theorem EI.on (h : EI w W b cs R t m v V) (hb : Below W.heap.size W W') : EI w W' b cs R t m v V := ⟨h.toES.on hb, blk_below h.tx hb, pw_own_below h.own hb⟩
theorem ES.start {W1 W2 : World} (hB : Below w.heap.size w W) (hb : Below W.heap.size W W1) (hr : Rws W.heap.size W1 R) (h2 : Below (W1.alloc (.cells cs 54)).heap.size (W1.alloc (.cells cs 54)) W2) : ES w W2 W1.heap.size cs R := by
  have h1 := chain_ hB hb
  have ha := below_alloc (Below.refl W1.heap.size W1) (.cells cs 54)
  refine ⟨chain_ (chain_ h1 ha) h2, blk_below (heap_alloc_new W1 _) h2, h1.size, ((hr.lower hB.size).on ha).on h2⟩
theorem EI.start {W1 W2 : World} (h : ES w W b cs R) (hb : Below W.heap.size W W1) (ho : W1.ownsRow W.heap.size 22 1 v V.length (nums .u64 V)) (h2 : Below (W1.alloc (.cells #[.int .i64 m, v] 31)).heap.size (W1.alloc (.cells #[.int .i64 m, v] 31)) W2) : EI w W2 b cs R W1.heap.size m v V := by
  have ha := below_alloc (Below.refl W1.heap.size W1) (.cells #[.int .i64 m, v] 31)
  exact ⟨((h.on hb).on ha).on h2, blk_below (heap_alloc_new W1 _) h2, pw_own_below (pw_own_below (own_weaken ho h.be.size) ha) h2⟩
theorem EI.t0 (h : EI w W b cs R t m v V) : W.cell? ⟨t, 0, none⟩ = some (.int .i64 m) := (blk_cell h.tx 0).trans rfl
theorem EI.t1 (h : EI w W b cs R t m v V) : W.cell? ⟨t, 1, none⟩ = some v := (blk_cell h.tx 1).trans rfl
theorem EI.num {g n c i : Nat} {x : Value} {xs : List Value} (h : EI w W b cs R t m v V) (ho : W.ownsRow w.heap.size 3 1 (.slice (some ⟨g, 0, none⟩) n c) n xs) : EI w (W.setCell ⟨g, i, none⟩ x) b cs R t m v V := by
  obtain ⟨hw, c0, hc⟩ := own_block ho g rfl
  have far : ∀ k, k ≠ g → (W.setCell ⟨g, i, none⟩ x).heap[k]? = W.heap[k]? := fun k hk => Below.heap_setCell _ ⟨g, i, none⟩ _ _ hk
  have ne : ∀ (k : Nat) (cs : Array Value) (t : TypeId), W.heap[k]? = some (.cells cs t (0, 0)) → t ≠ 3 → k ≠ g := by
    rintro k cs t hk ht rfl
    rw [hk] at hc
    injection hc with hc
    injection hc with _ hc
    exact ht hc
  refine ⟨⟨below_set h.be hw, (far _ (ne _ _ _ h.bx (by decide))).trans h.bx, h.ge, ?_⟩, (far _ (ne _ _ _ h.tx (by decide))).trans h.tx, own_set_other h.own hc (by decide)⟩
  exact ⟨fun j p hj => own_set_other (h.rows.own j p hj) hc (by decide), h.rows.ap⟩
end
end Go.Proofs.Ytlghmadoogblcaa.EachWalk
end
section
namespace Go.Proofs.Ytlghmadoogblcaa.IsWalk
open Go Go.RowKit Go.Proofs.YtlghmadoogblcaaW.PrintWords Go.Proofs.YtlghmadoogblcaaW.PrintLast Go.Proofs.YtlghmadoogblcaaW.PrintMore Go.Proofs.Ytlghmadoogblcaa.PW Go.Proofs.Ytlghmadoogblcaa.Book Go.Proofs.Ytlghmadoogblcaa.Lent Go.Proofs.Ytlghmadoogblcaa.Pile Go.Proofs.Ytlghmadoogblcaa.Rows4
set_option linter.unusedVariables false
set_option linter.unusedSimpArgs false
structure I0 (w W : World) (b r : Nat) (cs : Array Value) : Prop where
  be : Below w.heap.size w W
  bx : W.heap[b]? = some (.cells cs 54 (0, 0))
  rx : W.heap[r]? = some (.cells #[.int .i64 0, .slice none 0 0] 31 (0, 0))
  ge : w.heap.size ≤ b
  re : w.heap.size ≤ r
  ne : r ≠ b
theorem I0.on {w W W' : World} {b r : Nat} {cs : Array Value} (h : I0 w W b r cs) (hb : Below W.heap.size W W') : I0 w W' b r cs := ⟨below_then h.be h.be.size hb, blk_below h.bx hb, blk_below h.rx hb, h.ge, h.re, h.ne⟩
structure IS (w W : World) (b r t : Nat) (cs : Array Value) (m : Int) (v : Value) (O : List Int) : Prop extends I0 w W b r cs where
  tx : W.heap[t]? = some (.cells #[.int .i64 m, v] 31 (0, 0))
  te : w.heap.size ≤ t
  rt : r ≠ t
  own : W.ownsRow w.heap.size 22 1 v O.length (nums .u64 O)
section
variable {w W W' : World} {b r t : Nat} {cs : Array Value} {m : Int} {v : Value} {O : List Int}
theorem IS.on (h : IS w W b r t cs m v O) (hb : Below W.heap.size W W') : IS w W' b r t cs m v O := ⟨h.toI0.on hb, blk_below h.tx hb, h.te, h.rt, pw_own_below h.own hb⟩
theorem IS.t0 (h : IS w W b r t cs m v O) : W.cell? ⟨t, 0, none⟩ = some (.int .i64 m) := (blk_cell h.tx 0).trans rfl
theorem IS.t1 (h : IS w W b r t cs m v O) : W.cell? ⟨t, 1, none⟩ = some v := (blk_cell h.tx 1).trans rfl
theorem IS.word {g n c : Nat} (h : IS w W b r t cs m (.slice (some ⟨g, 0, none⟩) n c) O) (hn : n = O.length) (i : Nat) (x : Int) : IS w (W.setCell ⟨g, i, none⟩ (.int .u64 x)) b r t cs m (.slice (some ⟨g, 0, none⟩) n c) (O.set i x) := by
  subst hn
  obtain ⟨hw, c0, hc⟩ := own_block h.own g rfl
  have hs := h.own.stored i (.int .u64 x)
  rw [nums_set] at hs
  have ne : ∀ (k : Nat) (cs : Array Value) (t : TypeId), W.heap[k]? = some (.cells cs t (0, 0)) → t ≠ 22 → k ≠ g := by
    rintro k cs t hk ht rfl
    rw [hk] at hc
    injection hc with hc
    injection hc with _ hc
    exact ht hc
  have far : ∀ k, k ≠ g → (W.setCell ⟨g, i, none⟩ (.int .u64 x)).heap[k]? = W.heap[k]? := fun k hk => Below.heap_setCell _ ⟨g, i, none⟩ _ _ hk
  exact ⟨⟨below_set h.be hw, (far _ (ne _ _ _ h.bx (by decide))).trans h.bx, (far _ (ne _ _ _ h.rx (by decide))).trans h.rx, h.ge, h.re, h.ne⟩, (far _ (ne _ _ _ h.tx (by decide))).trans h.tx, h.te, h.rt, by rw [List.length_set]; exact hs.1⟩
end
def isTo (on : Bool) (O ws : List Int) : Nat → List Int
  | 0 => O
  | i + 1 => (isTo on O ws i).set i (Go.bits (if on then .and else .andNot) .u64 ((isTo on O ws i).getD i 0) (ws.getD i 0))
theorem index4_0 (a b c d e f g h : Value) (w : World) : (Instr.index 54 (.agg #[a, b, c, d, e, f, g, h]) (.int .i64 0)).run Try.prog w = .ok (.agg #[a, b]) w := by kernel_rfl
theorem index4_1 (a b c d e f g h : Value) (w : World) : (Instr.index 54 (.agg #[a, b, c, d, e, f, g, h]) (.int .i64 1)).run Try.prog w = .ok (.agg #[c, d]) w := by kernel_rfl
theorem index4_2 (a b c d e f g h : Value) (w : World) : (Instr.index 54 (.agg #[a, b, c, d, e, f, g, h]) (.int .i64 2)).run Try.prog w = .ok (.agg #[e, f]) w := by kernel_rfl
theorem index4_3 (a b c d e f g h : Value) (w : World) : (Instr.index 54 (.agg #[a, b, c, d, e, f, g, h]) (.int .i64 3)).run Try.prog w = .ok (.agg #[g, h]) w := by kernel_rfl
theorem c4 {W : World} {b : Nat} {n0 n1 n2 n3 : Int} {A0 A1 A2 A3 : Option Addr} {X0 X1 X2 X3 : List Int} {c0 c1 c2 c3 : Nat} {t : TypeId} (hb : W.heap[b]? = some (.cells #[.int .i64 n0, .slice A0 X0.length c0, .int .i64 n1, .slice A1 X1.length c1, .int .i64 n2, .slice A2 X2.length c2, .int .i64 n3, .slice A3 X3.length c3] t (0, 0)))
    (h0 : Kd.C (Kd.int .u64) W A0 X0.length X0) (l0 : X0.length ≤ c0) (h1 : Kd.C (Kd.int .u64) W A1 X1.length X1) (l1 : X1.length ≤ c1) (h2 : Kd.C (Kd.int .u64) W A2 X2.length X2) (l2 : X2.length ≤ c2) (h3 : Kd.C (Kd.int .u64) W A3 X3.length X3) (l3 : X3.length ≤ c3) : Kd.C k31 W (some ⟨b, 0, none⟩) 4 [⟨n0, X0⟩, ⟨n1, X1⟩, ⟨n2, X2⟩, ⟨n3, X3⟩] := by
  have cell : ∀ (j : Nat) (v : Value), (#[.int .i64 n0, .slice A0 X0.length c0, .int .i64 n1, .slice A1 X1.length c1, .int .i64 n2, .slice A2 X2.length c2, .int .i64 n3, .slice A3 X3.length c3] : Array Value)[j]? = some v → W.cell? ((⟨b, 0, none⟩ : Addr).add j) = some v := by
    intro j v e
    have e2 : (⟨b, 0, none⟩ : Addr).add j = ⟨b, j, none⟩ := by cases j <;> simp [Addr.add]
    rw [e2]
    exact (blk_cell hb j).trans e
  refine ⟨rfl, by decide, fun _ => ⟨_, rfl, fun j p hj => ?_⟩⟩
  match j, hj with
  | 0, hj => obtain rfl := Option.some.inj hj; exact ⟨_, rfl, k31_mk W ⟨n0, X0⟩ l0 h0, fun i u hu => by match i, hu with | 0, hu => exact cell 0 _ hu | 1, hu => exact cell 1 _ hu⟩
  | 1, hj => obtain rfl := Option.some.inj hj; exact ⟨_, rfl, k31_mk W ⟨n1, X1⟩ l1 h1, fun i u hu => by match i, hu with | 0, hu => exact cell 2 _ hu | 1, hu => exact cell 3 _ hu⟩
  | 2, hj => obtain rfl := Option.some.inj hj; exact ⟨_, rfl, k31_mk W ⟨n2, X2⟩ l2 h2, fun i u hu => by match i, hu with | 0, hu => exact cell 4 _ hu | 1, hu => exact cell 5 _ hu⟩
  | 3, hj => obtain rfl := Option.some.inj hj; exact ⟨_, rfl, k31_mk W ⟨n3, X3⟩ l3 h3, fun i u hu => by match i, hu with | 0, hu => exact cell 6 _ hu | 1, hu => exact cell 7 _ hu⟩
  | j + 4, hj => simp at hj
theorem c4' {W : World} {b L : Nat} {m : Int} {A0 A1 A2 A3 : Option Addr} {X0 X1 X2 X3 : List Int} {c0 c1 c2 c3 : Nat} (x0 : X0.length = L) (x1 : X1.length = L) (x2 : X2.length = L) (x3 : X3.length = L) (hb : W.heap[b]? = some (.cells #[.int .i64 m, .slice A0 L c0, .int .i64 m, .slice A1 L c1, .int .i64 m, .slice A2 L c2, .int .i64 m, .slice A3 L c3] 54 (0, 0)))
    (h0 : Kd.C (Kd.int .u64) W A0 X0.length X0) (l0 : X0.length ≤ c0) (h1 : Kd.C (Kd.int .u64) W A1 X1.length X1) (l1 : X1.length ≤ c1) (h2 : Kd.C (Kd.int .u64) W A2 X2.length X2) (l2 : X2.length ≤ c2) (h3 : Kd.C (Kd.int .u64) W A3 X3.length X3) (l3 : X3.length ≤ c3) : Kd.C k31 W (some ⟨b, 0, none⟩) 4 [⟨m, X0⟩, ⟨m, X1⟩, ⟨m, X2⟩, ⟨m, X3⟩] :=
  c4 (by rw [x0, x1, x2, x3]; exact hb) h0 l0 h1 l1 h2 l2 h3 l3
set_option maxHeartbeats 8000000 in
set_option maxRecDepth 100000 in
theorem is_ok (k : Nat) (m n : Int) (A0 A1 A2 A3 : Option Addr) (X0 X1 X2 X3 O0 Z : List Int) (c0 c1 c2 c3 L : Nat) (on0 on1 on2 on3 : Bool) (w : World) (hC0 : Kd.C (Kd.int .u64) w A0 X0.length X0) (hl0 : X0.length ≤ c0) (hC1 : Kd.C (Kd.int .u64) w A1 X1.length X1) (hl1 : X1.length ≤ c1) (hC2 : Kd.C (Kd.int .u64) w A2 X2.length X2) (hl2 : X2.length ≤ c2) (hC3 : Kd.C (Kd.int .u64) w A3 X3.length X3) (hl3 : X3.length ≤ c3) (hf : words_fits.f k [⟨m, X0⟩, ⟨m, X1⟩, ⟨m, X2⟩, ⟨m, X3⟩] = some 0) (h0 : 0 ≤ n) (h15 : n ≤ 15) (hLb : L ≤ 2000000)
    (hx0 : X0.length = L) (hx1 : X1.length = L) (hx2 : X2.length = L) (hx3 : X3.length = L) (ho : O0.length = L) (hon0 : (Go.bits .and .i64 n 1 == 1) = on0) (hon1 : (Go.bits .and .i64 (n / 2) 1 == 1) = on1) (hon2 : (Go.bits .and .i64 (n / 4) 1 == 1) = on2) (hon3 : (Go.bits .and .i64 (n / 8) 1 == 1) = on3) (hz : words_blank.f m = some (m, Z)) (hnot : words_Not.f k m Z = some (m, O0, 0)) :
    Calls Try.prog 36 #[.agg #[.int .i64 m, .slice A0 L c0, .int .i64 m, .slice A1 L c1, .int .i64 m, .slice A2 L c2, .int .i64 m, .slice A3 L c3], .int .i64 n] w fun e w' => ∃ v, e = .returned (.tuple #[.agg #[.int .i64 m, v], .int .i64 0]) ∧ w'.ownsRow w.heap.size 22 1 v (isTo on3 (isTo on2 (isTo on1 (isTo on0 O0 X0 L) X1 L) X2 L) X3 L).length (nums .u64 (isTo on3 (isTo on2 (isTo on1 (isTo on0 O0 X0 L) X1 L) X2 L) X3 L)) ∧ Below w.heap.size w w' := by
  have HC0 := Aside0.mk hC0; have HL0 := Aside0.mk hl0; have HC1 := Aside0.mk hC1; have HL1 := Aside0.mk hl1; have HC2 := Aside0.mk hC2; have HL2 := Aside0.mk hl2; have HC3 := Aside0.mk hC3; have HL3 := Aside0.mk hl3
  have HF := Aside0.mk hf; have HZ := Aside0.mk hz; have HNT := Aside0.mk hnot; have HOL := Aside0.mk ho
  have HX0 := Aside0.mk hx0; have HON0 := Aside0.mk hon0; have HX1 := Aside0.mk hx1; have HON1 := Aside0.mk hon1; have HX2 := Aside0.mk hx2; have HON2 := Aside0.mk hon2; have HX3 := Aside0.mk hx3; have HON3 := Aside0.mk hon3
  have hu := Try.underlying31
  have hu4 := Try.underlying54
  clear hC0 hl0 hC1 hl1 hC2 hl2 hC3 hl3 hf hz hnot ho hx0 hx1 hx2 hx3 hon0 hon1 hon2 hon3
  go_enter Try.func36, Try.ntmps36
  go_wp2_with (first
    | ((with_reducible refine gate_dst (N := 2) rfl ?_); refine box_event ?hg2 (N := 2) ?hd2 (cs := #[.int .i64 m, .slice A0 L c0, .int .i64 m, .slice A1 L c1, .int .i64 m, .slice A2 L c2, .int .i64 m, .slice A3 L c3]) (t := 54) ?hr2 ?_; (case hd2 => rfl); (case hg2 => rfl); (case hr2 => first | (go_simp; done) | (go_simp; rfl)); intro b gb W1 x1 hb1; have hge : w.heap.size ≤ b := (by omega); clear gb)
    | ((with_reducible refine gate_dst (N := 4) rfl ?_); refine box_event ?hg4 (N := 4) ?hd4 (cs := #[.int .i64 0, .slice none 0 0]) (t := 31) ?hr4 ?_; (case hd4 => rfl); (case hg4 => rfl); (case hr4 => first | (go_simp; done) | (go_simp; rfl)); intro r gr W2 x2 hb2; have P2 : I0 w W2 b r #[.int .i64 m, .slice A0 L c0, .int .i64 m, .slice A1 L c1, .int .i64 m, .slice A2 L c2, .int .i64 m, .slice A3 L c3] := ⟨chain_ hb1 hb2, blk_below x1 hb2, x2, hge, (by have := hb1.size; omega), (by have := blk_lt x1; omega)⟩; have P := Aside0.mk P2; clear P2 x1 x2 hb1 hb2 gr)
    | (go_at_call 55; have P1 := P.out; have h_ : Calls Try.prog 55 #[.slice (some ⟨b, 0, none⟩) 4 4] W2 (fun e w' => e = .returned (.int .i64 0) ∧ Below W2.heap.size W2 w') := words_fits.calls k (some ⟨b, 0, none⟩) 4 [⟨m, X0⟩, ⟨m, X1⟩, ⟨m, X2⟩, ⟨m, X3⟩] 0 W2 (c4' HX0.out HX1.out HX2.out HX3.out P1.bx (Kd.C_below HC0.out P1.be) HL0.out (Kd.C_below HC1.out P1.be) HL1.out (Kd.C_below HC2.out P1.be) HL2.out (Kd.C_below HC3.out P1.be) HL3.out) (Nat.le_refl 4) HF.out; (with_reducible refine h_.mono ?_); clear h_; rintro er_ v1 ⟨rfl, hb⟩; have P2 := P1.on hb; clear hb P P1; have P := Aside0.mk P2; clear P2; have x0_ : v1.cell? ⟨b, 0, none⟩ = some (.int .i64 m) := (blk_cell P.out.bx 0).trans rfl)
    | (go_at_call 47; have P1 := P.out; (with_reducible refine (words_blank.calls m m Z _ HZ.out).mono ?_); rintro er_ v2 ⟨t_, rfl, hR, hb⟩; obtain ⟨A_z, c_z, e_, hl_, hC_⟩ := Kd.R_reads hR; subst e_; have P2 := P1.on hb; have HCZ := Aside0.mk hC_; have HLZ := Aside0.mk hl_; clear hb P P1 hR hC_ hl_; have P := Aside0.mk P2; clear P2 x0_)
    | (go_at_call 39; have P1 := P.out; (with_reducible refine (words_Not.calls k m A_z c_z Z m O0 0 _ HCZ.out HLZ.out HNT.out).mono ?_); rintro er_ v3 ⟨t_, rfl, hR, hb⟩; obtain ⟨Ao, co, e_, -, -⟩ := Kd.R_reads hR; rw [HOL.out] at e_; subst e_; have P2 := P1.on hb; have how_ : v3.ownsRow v2.heap.size 22 1 (.slice Ao L co) O0.length (nums .u64 O0) := Kd.own_of_R hR; have HOW := Aside0.mk (own_less how_ P1.be.size); clear how_; clear hb P P1 hR; have P := Aside0.mk P2; clear P2; have x_0 : v3.cell? ⟨b, 0, none⟩ = some (.int .i64 m) := (blk_cell P.out.bx 0).trans rfl; have x_1 : v3.cell? ⟨b, 1, none⟩ = some (.slice A0 L c0) := (blk_cell P.out.bx 1).trans rfl; have x_2 : v3.cell? ⟨b, 2, none⟩ = some (.int .i64 m) := (blk_cell P.out.bx 2).trans rfl; have x_3 : v3.cell? ⟨b, 3, none⟩ = some (.slice A1 L c1) := (blk_cell P.out.bx 3).trans rfl; have x_4 : v3.cell? ⟨b, 4, none⟩ = some (.int .i64 m) := (blk_cell P.out.bx 4).trans rfl; have x_5 : v3.cell? ⟨b, 5, none⟩ = some (.slice A2 L c2) := (blk_cell P.out.bx 5).trans rfl; have x_6 : v3.cell? ⟨b, 6, none⟩ = some (.int .i64 m) := (blk_cell P.out.bx 6).trans rfl; have x_7 : v3.cell? ⟨b, 7, none⟩ = some (.slice A3 L c3) := (blk_cell P.out.bx 7).trans rfl; have q_b := blk_lt P.out.bx))
  refine wp_loop_rounds 5 ?_
  have P2 : IS w (v3.alloc (.cells #[.int .i64 m, .slice Ao L co] 31)) b r v3.heap.size #[.int .i64 m, .slice A0 L c0, .int .i64 m, .slice A1 L c1, .int .i64 m, .slice A2 L c2, .int .i64 m, .slice A3 L c3] m (.slice Ao L co) O0 := ⟨P.out.on (below_alloc (Below.refl _ _) _), blk_new v3 _, P.out.be.size, (by have := blk_lt P.out.rx; omega), own_alloc HOW.out _⟩
  clear P HOW q_b x_0 x_1 x_2 x_3 x_4 x_5 x_6 x_7
  have P := Aside0.mk P2
  clear P2
  generalize v3.alloc _ = wq at P ⊢
  generalize v3.heap.size = t at P ⊢
  have t0_ := P.out.t0
  have t1_ := P.out.t1
  rw [rounds_succ]
  have hix_ : ∀ W : World, (Instr.index 54 (.agg #[.int .i64 m, .slice A0 L c0, .int .i64 m, .slice A1 L c1, .int .i64 m, .slice A2 L c2, .int .i64 m, .slice A3 L c3]) (.int .i64 0)).run Try.prog W = .ok (.agg #[.int .i64 m, .slice A0 L c0]) W := fun W => index4_0 _ _ _ _ _ _ _ _ W
  go_wp2
  clear hix_
  have P2 := P.out.on (below_alloc (Below.refl _ _) (.cells #[.int .i64 m, .slice A0 L c0] 31))
  clear P t0_ t1_
  have P := Aside0.mk P2
  clear P2
  generalize World.alloc _ _ = wa at P ⊢
  have t0_ := P.out.t0
  have t1_ := P.out.t1
  go_loopg [42] L (fun q2_ s42 wx => ∃ y : Int, s42 = .int .i64 y ∧ Aside0 (0 ≤ y ∧ y ≤ L ∧ (q2_ : Int) = L - y) ∧ Aside0 (IS w wx b r t #[.int .i64 m, .slice A0 L c0, .int .i64 m, .slice A1 L c1, .int .i64 m, .slice A2 L c2, .int .i64 m, .slice A3 L c3] m (.slice Ao L co) (isTo on0 O0 X0 y.toNat)))
  case atStart => exact ⟨0, rfl, ⟨by omega, by omega, by omega⟩, P⟩
  case round =>
    clear P t0_ t1_
    obtain ⟨y, rfl, HY, P⟩ := hrel
    have t0_ := P.out.t0
    have t1_ := P.out.t1
    by_cases qy : y < L
    · have p : 0 ≤ y := HY.out.1
      obtain ⟨ad, e_, hw0⟩ := Kd.at_int HC0.out y p (by have := HX0.out; omega)
      subst e_
      have hw_ : wr.cell? (ad.add y.toNat) = some (.int .u64 (rd X0 y)) := (P.out.be.cell (CountWalk.cell_lt hw0)).trans hw0
      clear hw0
      obtain ⟨wd, hwd⟩ : ∃ q, rd X0 y = q := ⟨_, rfl⟩
      rw [hwd] at hw_
      have HWD := Aside0.mk hwd
      clear hwd
      obtain ⟨O, hO⟩ : ∃ q, isTo on0 O0 X0 y.toNat = q := ⟨_, rfl⟩
      rw [hO] at P
      have HO := Aside0.mk hO
      clear hO
      obtain ⟨g, e_⟩ := own_some' P.out.own (by omega)
      subst e_
      have hlo : L = O.length := own_len' P.out.own
      obtain ⟨xo, hxo⟩ : ∃ q, O.getD y.toNat 0 = q := ⟨_, rfl⟩
      have sc_ : wr.cell? ⟨g, y.toNat, none⟩ = some (.int .u64 xo) := (CountWalk.own_word P.out.own y p (by omega)).trans (by rw [hxo])
      have sf_ := own_free P.out.own y.toNat
      have HXO := Aside0.mk hxo
      have HLO := Aside0.mk hlo
      clear hlo hxo
      go_wp2
      · have ht_ : (Go.bits .and .i64 n 1 == 1) = true := by assumption
        have HT := Aside0.mk (HON0.out.symm.trans ht_)
        clear ht_
        go_roundg (L - (y + 1).toNat)
        case measure => go_light; have := HY.out; omega
        case rel =>
          go_light
          refine ⟨y + 1, by have hw : wrap64 (y + 1) = y + 1 := (by unfold wrap64; omega); first | rfl | (rw [hw]; done) | (simp [hw]; done), ⟨by omega, by omega, by omega⟩, ⟨?_⟩⟩
          have h2 := P.out.word HLO.out y.toNat (Go.bits .and .u64 xo wd)
          rw [show (y + 1).toNat = y.toNat + 1 by omega]
          have e1 : isTo on0 O0 X0 (y.toNat + 1) = O.set y.toNat (Go.bits .and .u64 xo wd) := by
            have hwd : X0.getD y.toNat 0 = wd := HWD.out
            show (isTo on0 O0 X0 y.toNat).set y.toNat _ = _
            rw [HO.out, hwd, HXO.out, HT.out]
            rfl
          rw [e1]
          exact h2
      · have ht_ : (Go.bits .and .i64 n 1 == 1) = false := by assumption
        have HT := Aside0.mk (HON0.out.symm.trans ht_)
        clear ht_
        go_roundg (L - (y + 1).toNat)
        case measure => go_light; have := HY.out; omega
        case rel =>
          go_light
          refine ⟨y + 1, by have hw : wrap64 (y + 1) = y + 1 := (by unfold wrap64; omega); first | rfl | (rw [hw]; done) | (simp [hw]; done), ⟨by omega, by omega, by omega⟩, ⟨?_⟩⟩
          have h2 := P.out.word HLO.out y.toNat (Go.bits .andNot .u64 xo wd)
          rw [show (y + 1).toNat = y.toNat + 1 by omega]
          have e1 : isTo on0 O0 X0 (y.toNat + 1) = O.set y.toNat (Go.bits .andNot .u64 xo wd) := by
            have hwd : X0.getD y.toNat 0 = wd := HWD.out
            show (isTo on0 O0 X0 y.toNat).set y.toNat _ = _
            rw [HO.out, hwd, HXO.out, HT.out]
            rfl
          rw [e1]
          exact h2
    · have hy : y = L := by have := HY.out; omega
      have h2 := P.out
      rw [hy, Int.toNat_natCast] at h2
      clear P
      have P := Aside0.mk h2
      clear h2
      subst hy
      have t0_ := P.out.t0
      have t1_ := P.out.t1
      go_wp2
      rw [rounds_succ]
      have hix_ : ∀ W : World, (Instr.index 54 (.agg #[.int .i64 m, .slice A0 L c0, .int .i64 m, .slice A1 L c1, .int .i64 m, .slice A2 L c2, .int .i64 m, .slice A3 L c3]) (.int .i64 1)).run Try.prog W = .ok (.agg #[.int .i64 m, .slice A1 L c1]) W := fun W => index4_1 _ _ _ _ _ _ _ _ W
      go_wp2
      clear hix_
      have P2 := P.out.on (below_alloc (Below.refl _ _) (.cells #[.int .i64 m, .slice A1 L c1] 31))
      clear P t0_ t1_
      have P := Aside0.mk P2
      clear P2
      generalize World.alloc _ _ = wa at P ⊢
      have t0_ := P.out.t0
      have t1_ := P.out.t1
      go_loopg [42] L (fun q2_ s42 wx => ∃ y : Int, s42 = .int .i64 y ∧ Aside0 (0 ≤ y ∧ y ≤ L ∧ (q2_ : Int) = L - y) ∧ Aside0 (IS w wx b r t #[.int .i64 m, .slice A0 L c0, .int .i64 m, .slice A1 L c1, .int .i64 m, .slice A2 L c2, .int .i64 m, .slice A3 L c3] m (.slice Ao L co) (isTo on1 (isTo on0 O0 X0 L) X1 y.toNat)))
      case atStart => exact ⟨0, rfl, ⟨by omega, by omega, by omega⟩, P⟩
      case round =>
        clear P t0_ t1_
        obtain ⟨y, rfl, HY, P⟩ := hrel
        have t0_ := P.out.t0
        have t1_ := P.out.t1
        by_cases qy : y < L
        · have p : 0 ≤ y := HY.out.1
          obtain ⟨ad, e_, hw0⟩ := Kd.at_int HC1.out y p (by have := HX1.out; omega)
          subst e_
          have hw_ : wr.cell? (ad.add y.toNat) = some (.int .u64 (rd X1 y)) := (P.out.be.cell (CountWalk.cell_lt hw0)).trans hw0
          clear hw0
          obtain ⟨wd, hwd⟩ : ∃ q, rd X1 y = q := ⟨_, rfl⟩
          rw [hwd] at hw_
          have HWD := Aside0.mk hwd
          clear hwd
          obtain ⟨O, hO⟩ : ∃ q, isTo on1 (isTo on0 O0 X0 L) X1 y.toNat = q := ⟨_, rfl⟩
          rw [hO] at P
          have HO := Aside0.mk hO
          clear hO
          obtain ⟨g, e_⟩ := own_some' P.out.own (by omega)
          subst e_
          have hlo : L = O.length := own_len' P.out.own
          obtain ⟨xo, hxo⟩ : ∃ q, O.getD y.toNat 0 = q := ⟨_, rfl⟩
          have sc_ : wr.cell? ⟨g, y.toNat, none⟩ = some (.int .u64 xo) := (CountWalk.own_word P.out.own y p (by omega)).trans (by rw [hxo])
          have sf_ := own_free P.out.own y.toNat
          have HXO := Aside0.mk hxo
          have HLO := Aside0.mk hlo
          clear hlo hxo
          go_wp2
          · have ht_ : (Go.bits .and .i64 (n / 2) 1 == 1) = true := by assumption
            have HT := Aside0.mk (HON1.out.symm.trans ht_)
            clear ht_
            go_roundg (L - (y + 1).toNat)
            case measure => go_light; have := HY.out; omega
            case rel =>
              go_light
              refine ⟨y + 1, by have hw : wrap64 (y + 1) = y + 1 := (by unfold wrap64; omega); first | rfl | (rw [hw]; done) | (simp [hw]; done), ⟨by omega, by omega, by omega⟩, ⟨?_⟩⟩
              have h2 := P.out.word HLO.out y.toNat (Go.bits .and .u64 xo wd)
              rw [show (y + 1).toNat = y.toNat + 1 by omega]
              have e1 : isTo on1 (isTo on0 O0 X0 L) X1 (y.toNat + 1) = O.set y.toNat (Go.bits .and .u64 xo wd) := by
                have hwd : X1.getD y.toNat 0 = wd := HWD.out
                show (isTo on1 (isTo on0 O0 X0 L) X1 y.toNat).set y.toNat _ = _
                rw [HO.out, hwd, HXO.out, HT.out]
                rfl
              rw [e1]
              exact h2
          · have ht_ : (Go.bits .and .i64 (n / 2) 1 == 1) = false := by assumption
            have HT := Aside0.mk (HON1.out.symm.trans ht_)
            clear ht_
            go_roundg (L - (y + 1).toNat)
            case measure => go_light; have := HY.out; omega
            case rel =>
              go_light
              refine ⟨y + 1, by have hw : wrap64 (y + 1) = y + 1 := (by unfold wrap64; omega); first | rfl | (rw [hw]; done) | (simp [hw]; done), ⟨by omega, by omega, by omega⟩, ⟨?_⟩⟩
              have h2 := P.out.word HLO.out y.toNat (Go.bits .andNot .u64 xo wd)
              rw [show (y + 1).toNat = y.toNat + 1 by omega]
              have e1 : isTo on1 (isTo on0 O0 X0 L) X1 (y.toNat + 1) = O.set y.toNat (Go.bits .andNot .u64 xo wd) := by
                have hwd : X1.getD y.toNat 0 = wd := HWD.out
                show (isTo on1 (isTo on0 O0 X0 L) X1 y.toNat).set y.toNat _ = _
                rw [HO.out, hwd, HXO.out, HT.out]
                rfl
              rw [e1]
              exact h2
        · have hy : y = L := by have := HY.out; omega
          have h2 := P.out
          rw [hy, Int.toNat_natCast] at h2
          clear P
          have P := Aside0.mk h2
          clear h2
          subst hy
          have t0_ := P.out.t0
          have t1_ := P.out.t1
          go_wp2
          rw [rounds_succ]
          have hix_ : ∀ W : World, (Instr.index 54 (.agg #[.int .i64 m, .slice A0 L c0, .int .i64 m, .slice A1 L c1, .int .i64 m, .slice A2 L c2, .int .i64 m, .slice A3 L c3]) (.int .i64 2)).run Try.prog W = .ok (.agg #[.int .i64 m, .slice A2 L c2]) W := fun W => index4_2 _ _ _ _ _ _ _ _ W
          go_wp2
          clear hix_
          have P2 := P.out.on (below_alloc (Below.refl _ _) (.cells #[.int .i64 m, .slice A2 L c2] 31))
          clear P t0_ t1_
          have P := Aside0.mk P2
          clear P2
          generalize World.alloc _ _ = wa at P ⊢
          have t0_ := P.out.t0
          have t1_ := P.out.t1
          go_loopg [42] L (fun q2_ s42 wx => ∃ y : Int, s42 = .int .i64 y ∧ Aside0 (0 ≤ y ∧ y ≤ L ∧ (q2_ : Int) = L - y) ∧ Aside0 (IS w wx b r t #[.int .i64 m, .slice A0 L c0, .int .i64 m, .slice A1 L c1, .int .i64 m, .slice A2 L c2, .int .i64 m, .slice A3 L c3] m (.slice Ao L co) (isTo on2 (isTo on1 (isTo on0 O0 X0 L) X1 L) X2 y.toNat)))
          case atStart => exact ⟨0, rfl, ⟨by omega, by omega, by omega⟩, P⟩
          case round =>
            clear P t0_ t1_
            obtain ⟨y, rfl, HY, P⟩ := hrel
            have t0_ := P.out.t0
            have t1_ := P.out.t1
            by_cases qy : y < L
            · have p : 0 ≤ y := HY.out.1
              obtain ⟨ad, e_, hw0⟩ := Kd.at_int HC2.out y p (by have := HX2.out; omega)
              subst e_
              have hw_ : wr.cell? (ad.add y.toNat) = some (.int .u64 (rd X2 y)) := (P.out.be.cell (CountWalk.cell_lt hw0)).trans hw0
              clear hw0
              obtain ⟨wd, hwd⟩ : ∃ q, rd X2 y = q := ⟨_, rfl⟩
              rw [hwd] at hw_
              have HWD := Aside0.mk hwd
              clear hwd
              obtain ⟨O, hO⟩ : ∃ q, isTo on2 (isTo on1 (isTo on0 O0 X0 L) X1 L) X2 y.toNat = q := ⟨_, rfl⟩
              rw [hO] at P
              have HO := Aside0.mk hO
              clear hO
              obtain ⟨g, e_⟩ := own_some' P.out.own (by omega)
              subst e_
              have hlo : L = O.length := own_len' P.out.own
              obtain ⟨xo, hxo⟩ : ∃ q, O.getD y.toNat 0 = q := ⟨_, rfl⟩
              have sc_ : wr.cell? ⟨g, y.toNat, none⟩ = some (.int .u64 xo) := (CountWalk.own_word P.out.own y p (by omega)).trans (by rw [hxo])
              have sf_ := own_free P.out.own y.toNat
              have HXO := Aside0.mk hxo
              have HLO := Aside0.mk hlo
              clear hlo hxo
              go_wp2
              · have ht_ : (Go.bits .and .i64 (n / 4) 1 == 1) = true := by assumption
                have HT := Aside0.mk (HON2.out.symm.trans ht_)
                clear ht_
                go_roundg (L - (y + 1).toNat)
                case measure => go_light; have := HY.out; omega
                case rel =>
                  go_light
                  refine ⟨y + 1, by have hw : wrap64 (y + 1) = y + 1 := (by unfold wrap64; omega); first | rfl | (rw [hw]; done) | (simp [hw]; done), ⟨by omega, by omega, by omega⟩, ⟨?_⟩⟩
                  have h2 := P.out.word HLO.out y.toNat (Go.bits .and .u64 xo wd)
                  rw [show (y + 1).toNat = y.toNat + 1 by omega]
                  have e1 : isTo on2 (isTo on1 (isTo on0 O0 X0 L) X1 L) X2 (y.toNat + 1) = O.set y.toNat (Go.bits .and .u64 xo wd) := by
                    have hwd : X2.getD y.toNat 0 = wd := HWD.out
                    show (isTo on2 (isTo on1 (isTo on0 O0 X0 L) X1 L) X2 y.toNat).set y.toNat _ = _
                    rw [HO.out, hwd, HXO.out, HT.out]
                    rfl
                  rw [e1]
                  exact h2
              · have ht_ : (Go.bits .and .i64 (n / 4) 1 == 1) = false := by assumption
                have HT := Aside0.mk (HON2.out.symm.trans ht_)
                clear ht_
                go_roundg (L - (y + 1).toNat)
                case measure => go_light; have := HY.out; omega
                case rel =>
                  go_light
                  refine ⟨y + 1, by have hw : wrap64 (y + 1) = y + 1 := (by unfold wrap64; omega); first | rfl | (rw [hw]; done) | (simp [hw]; done), ⟨by omega, by omega, by omega⟩, ⟨?_⟩⟩
                  have h2 := P.out.word HLO.out y.toNat (Go.bits .andNot .u64 xo wd)
                  rw [show (y + 1).toNat = y.toNat + 1 by omega]
                  have e1 : isTo on2 (isTo on1 (isTo on0 O0 X0 L) X1 L) X2 (y.toNat + 1) = O.set y.toNat (Go.bits .andNot .u64 xo wd) := by
                    have hwd : X2.getD y.toNat 0 = wd := HWD.out
                    show (isTo on2 (isTo on1 (isTo on0 O0 X0 L) X1 L) X2 y.toNat).set y.toNat _ = _
                    rw [HO.out, hwd, HXO.out, HT.out]
                    rfl
                  rw [e1]
                  exact h2
            · have hy : y = L := by have := HY.out; omega
              have h2 := P.out
              rw [hy, Int.toNat_natCast] at h2
              clear P
              have P := Aside0.mk h2
              clear h2
              subst hy
              have t0_ := P.out.t0
              have t1_ := P.out.t1
              go_wp2
              rw [rounds_succ]
              have hix_ : ∀ W : World, (Instr.index 54 (.agg #[.int .i64 m, .slice A0 L c0, .int .i64 m, .slice A1 L c1, .int .i64 m, .slice A2 L c2, .int .i64 m, .slice A3 L c3]) (.int .i64 3)).run Try.prog W = .ok (.agg #[.int .i64 m, .slice A3 L c3]) W := fun W => index4_3 _ _ _ _ _ _ _ _ W
              go_wp2
              clear hix_
              have P2 := P.out.on (below_alloc (Below.refl _ _) (.cells #[.int .i64 m, .slice A3 L c3] 31))
              clear P t0_ t1_
              have P := Aside0.mk P2
              clear P2
              generalize World.alloc _ _ = wa at P ⊢
              have t0_ := P.out.t0
              have t1_ := P.out.t1
              go_loopg [42] L (fun q2_ s42 wx => ∃ y : Int, s42 = .int .i64 y ∧ Aside0 (0 ≤ y ∧ y ≤ L ∧ (q2_ : Int) = L - y) ∧ Aside0 (IS w wx b r t #[.int .i64 m, .slice A0 L c0, .int .i64 m, .slice A1 L c1, .int .i64 m, .slice A2 L c2, .int .i64 m, .slice A3 L c3] m (.slice Ao L co) (isTo on3 (isTo on2 (isTo on1 (isTo on0 O0 X0 L) X1 L) X2 L) X3 y.toNat)))
              case atStart => exact ⟨0, rfl, ⟨by omega, by omega, by omega⟩, P⟩
              case round =>
                clear P t0_ t1_
                obtain ⟨y, rfl, HY, P⟩ := hrel
                have t0_ := P.out.t0
                have t1_ := P.out.t1
                by_cases qy : y < L
                · have p : 0 ≤ y := HY.out.1
                  obtain ⟨ad, e_, hw0⟩ := Kd.at_int HC3.out y p (by have := HX3.out; omega)
                  subst e_
                  have hw_ : wr.cell? (ad.add y.toNat) = some (.int .u64 (rd X3 y)) := (P.out.be.cell (CountWalk.cell_lt hw0)).trans hw0
                  clear hw0
                  obtain ⟨wd, hwd⟩ : ∃ q, rd X3 y = q := ⟨_, rfl⟩
                  rw [hwd] at hw_
                  have HWD := Aside0.mk hwd
                  clear hwd
                  obtain ⟨O, hO⟩ : ∃ q, isTo on3 (isTo on2 (isTo on1 (isTo on0 O0 X0 L) X1 L) X2 L) X3 y.toNat = q := ⟨_, rfl⟩
                  rw [hO] at P
                  have HO := Aside0.mk hO
                  clear hO
                  obtain ⟨g, e_⟩ := own_some' P.out.own (by omega)
                  subst e_
                  have hlo : L = O.length := own_len' P.out.own
                  obtain ⟨xo, hxo⟩ : ∃ q, O.getD y.toNat 0 = q := ⟨_, rfl⟩
                  have sc_ : wr.cell? ⟨g, y.toNat, none⟩ = some (.int .u64 xo) := (CountWalk.own_word P.out.own y p (by omega)).trans (by rw [hxo])
                  have sf_ := own_free P.out.own y.toNat
                  have HXO := Aside0.mk hxo
                  have HLO := Aside0.mk hlo
                  clear hlo hxo
                  go_wp2
                  · have ht_ : (Go.bits .and .i64 (n / 8) 1 == 1) = true := by assumption
                    have HT := Aside0.mk (HON3.out.symm.trans ht_)
                    clear ht_
                    go_roundg (L - (y + 1).toNat)
                    case measure => go_light; have := HY.out; omega
                    case rel =>
                      go_light
                      refine ⟨y + 1, by have hw : wrap64 (y + 1) = y + 1 := (by unfold wrap64; omega); first | rfl | (rw [hw]; done) | (simp [hw]; done), ⟨by omega, by omega, by omega⟩, ⟨?_⟩⟩
                      have h2 := P.out.word HLO.out y.toNat (Go.bits .and .u64 xo wd)
                      rw [show (y + 1).toNat = y.toNat + 1 by omega]
                      have e1 : isTo on3 (isTo on2 (isTo on1 (isTo on0 O0 X0 L) X1 L) X2 L) X3 (y.toNat + 1) = O.set y.toNat (Go.bits .and .u64 xo wd) := by
                        have hwd : X3.getD y.toNat 0 = wd := HWD.out
                        show (isTo on3 (isTo on2 (isTo on1 (isTo on0 O0 X0 L) X1 L) X2 L) X3 y.toNat).set y.toNat _ = _
                        rw [HO.out, hwd, HXO.out, HT.out]
                        rfl
                      rw [e1]
                      exact h2
                  · have ht_ : (Go.bits .and .i64 (n / 8) 1 == 1) = false := by assumption
                    have HT := Aside0.mk (HON3.out.symm.trans ht_)
                    clear ht_
                    go_roundg (L - (y + 1).toNat)
                    case measure => go_light; have := HY.out; omega
                    case rel =>
                      go_light
                      refine ⟨y + 1, by have hw : wrap64 (y + 1) = y + 1 := (by unfold wrap64; omega); first | rfl | (rw [hw]; done) | (simp [hw]; done), ⟨by omega, by omega, by omega⟩, ⟨?_⟩⟩
                      have h2 := P.out.word HLO.out y.toNat (Go.bits .andNot .u64 xo wd)
                      rw [show (y + 1).toNat = y.toNat + 1 by omega]
                      have e1 : isTo on3 (isTo on2 (isTo on1 (isTo on0 O0 X0 L) X1 L) X2 L) X3 (y.toNat + 1) = O.set y.toNat (Go.bits .andNot .u64 xo wd) := by
                        have hwd : X3.getD y.toNat 0 = wd := HWD.out
                        show (isTo on3 (isTo on2 (isTo on1 (isTo on0 O0 X0 L) X1 L) X2 L) X3 y.toNat).set y.toNat _ = _
                        rw [HO.out, hwd, HXO.out, HT.out]
                        rfl
                      rw [e1]
                      exact h2
                · have hy : y = L := by have := HY.out; omega
                  have h2 := P.out
                  rw [hy, Int.toNat_natCast] at h2
                  clear P
                  have P := Aside0.mk h2
                  clear h2
                  subst hy
                  have t0_ := P.out.t0
                  have t1_ := P.out.t1
                  go_wp2
                  rw [rounds_succ]
                  have z0_ := (blk_cell P.out.rx 0).trans (show ((#[Value.int .i64 0, Value.slice none 0 0] : Array Value)[0]?) = some (.int .i64 0) from rfl)
                  have z1_ := (blk_cell P.out.rx 1).trans (show ((#[Value.int .i64 0, Value.slice none 0 0] : Array Value)[1]?) = some (.slice none 0 0) from rfl)
                  have f0_ := blk_frozen P.out.rx 0
                  have f1_ := blk_frozen P.out.rx 1
                  go_wp2
                  have hrx := P.out.rx
                  exact bodyPost_ret (results_ct rfl _ _ r 31 #[.int .i64 m, .slice Ao L co] (0, 0) _ rfl (blk_put (cs := #[.int .i64 m, .slice none 0 0]) (blk_put hrx 0 _ rfl) 1 _ rfl) hu rfl (by kernel_rfl)) rfl ⟨_, rfl, own_set_other (own_set_other P.out.own hrx (by decide)) (blk_put (cs' := #[.int .i64 m, .slice none 0 0]) hrx 0 _ rfl) (by decide), below_set (below_set P.out.be P.out.re) P.out.re⟩
end Go.Proofs.Ytlghmadoogblcaa.IsWalk
end
