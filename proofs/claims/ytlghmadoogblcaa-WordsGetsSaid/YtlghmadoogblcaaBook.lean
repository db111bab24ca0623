/- The book of the statements of layer 2: an answer that is what it must be is laid in. -/
import Derived.Test.YtlghmadoogblcaaPSx1
import Derived.Test.YtlghmadoogblcaaBx
import Derived.Test.YtlghmadoogblcaaWMore
import Derived.Lib.OthersKept
import Derived.Lib.BufferKept
namespace Go.Proofs.Ytlghmadoogblcaa.Book
open Go Go.RowKit Go.Proofs.YtlghmadoogblcaaW.PrintWords Go.Proofs.YtlghmadoogblcaaW.PrintLast Go.Proofs.YtlghmadoogblcaaW.PrintMore Go.Proofs.Ytlghmadoogblcaa.PS Go.Proofs.Ytlghmadoogblcaa.Bx
set_option linter.unusedVariables false
set_option linter.unusedSimpArgs false
theorem chain_ {w w1 w2 : World} (h : Below w.heap.size w w1) (k : Below w1.heap.size w1 w2) : Below w.heap.size w w2 := below_then h h.size k
/-- A row's two cells. -/
abbrev el (n : Int) (v : Value) : List Value := [.int .i64 n, v]
/-- A book: its block, its two lists of rows (their cells), nothing bad. -/
structure BookIs (w0 W : World) (b : Nat) (gv wv : Value) (G H : List (List Value)) : Prop where
  hb : W.heap[b]? = some (.cells #[gv, wv, .bool false] 40 (0, 0))
  rg : (Kd.raw 2).R 31 W w0.heap.size (fun _ => True) gv G
  rh : (Kd.raw 2).R 31 W w0.heap.size (fun _ => True) wv H
  ap : gv.ownBlock = none ∨ gv.ownBlock ≠ wv.ownBlock
  be : Below w0.heap.size w0 W
  ge : w0.heap.size ≤ b
theorem BookIs.on {w0 W W' : World} {b : Nat} {gv wv : Value} {G H : List (List Value)} (h : BookIs w0 W b gv wv G H) (hb : Below W.heap.size W W') : BookIs w0 W' b gv wv G H :=
  ⟨(hb.block b (blk_lt h.hb)).trans h.hb, Kd.R_below h.rg hb, Kd.R_below h.rh hb, h.ap, below_then h.be h.be.size hb, h.ge⟩
/-- All but the book and its two lists stands; the lists lie where they lay, or new. -/
structure Still (b : Nat) (gv0 wv0 : Value) (w W : World) (gv wv : Value) : Prop where
  far : ∀ (k : Nat) o, w.heap[k]? = some o → k ≠ b → some k ≠ gv0.ownBlock → some k ≠ wv0.ownBlock → W.heap[k]? = some o
  ga : gv.ownBlock = gv0.ownBlock ∨ ∃ k, gv.ownBlock = some k ∧ w.heap.size ≤ k
  wa : wv.ownBlock = wv0.ownBlock ∨ ∃ k, wv.ownBlock = some k ∧ w.heap.size ≤ k
  sz : w.heap.size ≤ W.heap.size
theorem Still.on {b : Nat} {gv0 wv0 gv wv : Value} {w W W' : World} (h : Still b gv0 wv0 w W gv wv) (hb : Below W.heap.size W W') : Still b gv0 wv0 w W' gv wv :=
  ⟨fun k o hk h1 h2 h3 => (hb.block k (by have h_ := h.far k o hk h1 h2 h3; exact (Array.getElem?_eq_some_iff.1 h_).1)).trans (h.far k o hk h1 h2 h3), h.ga, h.wa, Nat.le_trans h.sz hb.size⟩
theorem Still.put {b : Nat} {gv0 wv0 gv wv : Value} {w W : World} (h : Still b gv0 wv0 w W gv wv) (j : Nat) (v : Value) : Still b gv0 wv0 w (W.setCell ⟨b, j, none⟩ v) gv wv :=
  ⟨fun k o hk h1 h2 h3 => (Below.heap_setCell W ⟨b, j, none⟩ v k h1).trans (h.far k o hk h1 h2 h3), h.ga, h.wa, by have := h.sz; simpa using this⟩
theorem Still.grow1 {b : Nat} {gv0 wv0 gv wv gv1 : Value} {w W W' : World} (h : Still b gv0 wv0 w W gv wv) (hg : W.grownBy W' gv.ownBlock) (hat : gv1.ownBlock = gv.ownBlock ∨ ∃ b, gv1.ownBlock = some b ∧ W.heap.size ≤ b) : Still b gv0 wv0 w W' gv1 wv := by
  refine ⟨fun k o hk h1 h2 h3 => (hg.block k (by have h_ := h.far k o hk h1 h2 h3; exact (Array.getElem?_eq_some_iff.1 h_).1) ?_).trans (h.far k o hk h1 h2 h3), ?_, h.wa, Nat.le_trans h.sz hg.size⟩
  · rcases h.ga with a | ⟨q, a, hq⟩
    · rw [a]; exact h2
    · rw [a]; intro e; cases e; have := (Array.getElem?_eq_some_iff.1 hk).1; omega
  · rcases hat with e | ⟨q, e, hq⟩
    · rw [e]; exact h.ga
    · exact .inr ⟨q, e, Nat.le_trans h.sz hq⟩
theorem Still.grow2 {b : Nat} {gv0 wv0 gv wv wv1 : Value} {w W W' : World} (h : Still b gv0 wv0 w W gv wv) (hg : W.grownBy W' wv.ownBlock) (hat : wv1.ownBlock = wv.ownBlock ∨ ∃ b, wv1.ownBlock = some b ∧ W.heap.size ≤ b) : Still b gv0 wv0 w W' gv wv1 := by
  refine ⟨fun k o hk h1 h2 h3 => (hg.block k (by have h_ := h.far k o hk h1 h2 h3; exact (Array.getElem?_eq_some_iff.1 h_).1) ?_).trans (h.far k o hk h1 h2 h3), h.ga, ?_, Nat.le_trans h.sz hg.size⟩
  · rcases h.wa with a | ⟨q, a, hq⟩
    · rw [a]; exact h3
    · rw [a]; intro e; cases e; have := (Array.getElem?_eq_some_iff.1 hk).1; omega
  · rcases hat with e | ⟨q, e, hq⟩
    · rw [e]; exact h.wa
    · exact .inr ⟨q, e, Nat.le_trans h.sz hq⟩
/-- While adds runs. -/
structure AS (gv0 wv0 : Value) (w0 w W : World) (b t6 t8 : Nat) (gv wv : Value) (G H : List (List Value)) (r q : List Value) : Prop where
  hb : W.heap[b]? = some (.cells #[gv, wv, .bool false] 40 (0, 0))
  h6 : W.heap[t6]? = some (.cells r.toArray 31 (0, 0))
  h8 : W.heap[t8]? = some (.cells q.toArray 31 (0, 0))
  rg : (Kd.raw 2).R 31 W w0.heap.size (fun k => k ≠ b ∧ k ≠ t6 ∧ k ≠ t8) gv G
  rh : (Kd.raw 2).R 31 W w0.heap.size (fun k => k ≠ b ∧ k ≠ t6 ∧ k ≠ t8) wv H
  ap : gv.ownBlock = none ∨ gv.ownBlock ≠ wv.ownBlock
  be : Below w0.heap.size w0 W
  ge : w0.heap.size ≤ b
  n6 : t6 ≠ b
  n8 : t8 ≠ b
  ok : Still b gv0 wv0 w W gv wv
section
variable {w0 w W W' : World} {b t6 t8 : Nat} {gv0 wv0 gv wv gv1 wv1 : Value} {G H : List (List Value)} {r q p : List Value}
theorem AS.on (h : AS gv0 wv0 w0 w W b t6 t8 gv wv G H r q) (hb : Below W.heap.size W W') : AS gv0 wv0 w0 w W' b t6 t8 gv wv G H r q :=
  ⟨(hb.block b (blk_lt h.hb)).trans h.hb, (hb.block t6 (blk_lt h.h6)).trans h.h6, (hb.block t8 (blk_lt h.h8)).trans h.h8, Kd.R_below h.rg hb, Kd.R_below h.rh hb, h.ap, below_then h.be h.be.size hb, h.ge, h.n6, h.n8, h.ok.on hb⟩
theorem AS.drew (h : AS gv0 wv0 w0 w W b t6 t8 gv wv G H r q) : AS gv0 wv0 w0 w W.drew b t6 t8 gv wv G H r q := h.on (below_drew (Below.refl _ _))
theorem AS.start (h : BookIs w0 w b gv wv G H) (g6 : w.heap.size ≤ t6) (g8 : w.heap.size ≤ t8) (W1 : World) (hb : Below w.heap.size w W1) (h6 : W1.heap[t6]? = some (.cells r.toArray 31 (0, 0))) (h8 : W1.heap[t8]? = some (.cells q.toArray 31 (0, 0))) :
    AS gv wv w0 w W1 b t6 t8 gv wv G H r q := by
  have lb := blk_lt h.hb
  have f : ∀ {v : Value} {X : List (List Value)}, (Kd.raw 2).R 31 w w0.heap.size (fun _ => True) v X → (Kd.raw 2).R 31 W1 w0.heap.size (fun k => k ≠ b ∧ k ≠ t6 ∧ k ≠ t8) v X := fun hR =>
    Kd.R_below (Kd.R_mono (Kd.R_types (Kd.R_bound hR) h.hb (g := b) (by intro q hq; simp [Kd.raw] at hq; subst hq; decide)) (fun k hk => ⟨hk.2, by have := hk.1.2.2.1; omega, by have := hk.1.2.2.1; omega⟩)) hb
  exact ⟨(hb.block b lb).trans h.hb, h6, h8, f h.rg, f h.rh, h.ap, below_then h.be h.be.size hb, h.ge, by omega, by omega, ⟨fun k o hk _ _ _ => (hb.block k (Array.getElem?_eq_some_iff.1 hk).1).trans hk, .inl rfl, .inl rfl, hb.size⟩⟩
theorem own_kind {v : Value} {X : List (List Value)} {ok : Nat → Prop} {base : Nat} (hR : (Kd.raw 2).R 31 W base ok v X) : ∀ g, v.ownBlock = some g → ∃ c fz, W.heap[g]? = some (.cells c 31 fz) := by
  intro g hg
  obtain ⟨_, _, hk, q, hq, c, hc⟩ := (Kd.R_bound hR).1 g hg
  simp [Kd.raw] at hq
  subst hq
  exact ⟨c, _, hc⟩
/-- got has grown. -/
theorem AS.app1 (h : AS gv0 wv0 w0 w W b t6 t8 gv wv G H r q) (hr : (Kd.raw 2).R 31 W' w0.heap.size (fun k => k ≠ b ∧ k ≠ t6 ∧ k ≠ t8) gv1 (G ++ [p])) (hb : Below w0.heap.size w0 W') (hg : W.grownBy W' gv.ownBlock) (hat : gv1.ownBlock = gv.ownBlock ∨ ∃ b, gv1.ownBlock = some b ∧ W.heap.size ≤ b) :
    AS gv0 wv0 w0 w (W'.setCell ⟨b, 0, none⟩ gv1) b t6 t8 gv1 wv (G ++ [p]) H r q := by
  have nb := Kd.R_away (g := b) h.rg (fun _ hk => hk.1)
  have n6 := Kd.R_away (g := t6) h.rg (fun _ hk => hk.2.1)
  have n8 := Kd.R_away (g := t8) h.rg (fun _ hk => hk.2.2)
  have ap0 : ∀ k, gv.ownBlock = some k → some k ≠ wv.ownBlock := by
    intro k hk e
    rcases h.ap with a | a
    · rw [a] at hk; exact absurd hk (by simp)
    · exact a (hk.trans e)
  have rh1 := Kd.R_grown2 h.rh rfl hg ap0
  refine ⟨blk_put (cs := #[gv, wv, .bool false]) (blk_grown h.hb hg nb) 0 gv1 rfl, blk_far (blk_grown h.h6 hg n6) h.n6 _, blk_far (blk_grown h.h8 hg n8) h.n8 _, Kd.R_far (p := ⟨b, 0, none⟩) hr (fun _ hk => hk.1) _, Kd.R_far (p := ⟨b, 0, none⟩) rh1 (fun _ hk => hk.1) _, ?_, below_set hb h.ge, h.ge, h.n6, h.n8, (h.ok.grow1 hg hat).put 0 _⟩
  rcases hat with e | ⟨k, e, hk⟩
  · rw [e]; exact h.ap
  · right
    rw [e]
    intro z
    obtain ⟨_, _, hk2, _⟩ := (Kd.R_bound h.rh).1 k z.symm
    omega
/-- want has grown. -/
theorem AS.app2 (h : AS gv0 wv0 w0 w W b t6 t8 gv wv G H r q) (hr : (Kd.raw 2).R 31 W' w0.heap.size (fun k => k ≠ b ∧ k ≠ t6 ∧ k ≠ t8) wv1 (H ++ [p])) (hb : Below w0.heap.size w0 W') (hg : W.grownBy W' wv.ownBlock) (hat : wv1.ownBlock = wv.ownBlock ∨ ∃ b, wv1.ownBlock = some b ∧ W.heap.size ≤ b) :
    AS gv0 wv0 w0 w (W'.setCell ⟨b, 1, none⟩ wv1) b t6 t8 gv wv1 G (H ++ [p]) r q := by
  have nb := Kd.R_away (g := b) h.rh (fun _ hk => hk.1)
  have n6 := Kd.R_away (g := t6) h.rh (fun _ hk => hk.2.1)
  have n8 := Kd.R_away (g := t8) h.rh (fun _ hk => hk.2.2)
  have ap0 : ∀ k, wv.ownBlock = some k → some k ≠ gv.ownBlock := by
    intro k hk e
    rcases h.ap with a | a
    · rw [a] at e; exact absurd e (by simp)
    · exact a (e.symm.trans hk.symm)
  have rg1 := Kd.R_grown2 h.rg rfl hg ap0
  refine ⟨blk_put (cs := #[gv, wv, .bool false]) (blk_grown h.hb hg nb) 1 wv1 rfl, blk_far (blk_grown h.h6 hg n6) h.n6 _, blk_far (blk_grown h.h8 hg n8) h.n8 _, Kd.R_far (p := ⟨b, 1, none⟩) rg1 (fun _ hk => hk.1) _, Kd.R_far (p := ⟨b, 1, none⟩) hr (fun _ hk => hk.1) _, ?_, below_set hb h.ge, h.ge, h.n6, h.n8, (h.ok.grow2 hg hat).put 1 _⟩
  rcases hat with e | ⟨k, e, hk⟩
  · rw [e]; exact h.ap
  · right
    rw [e]
    intro z
    obtain ⟨_, _, hk2, _⟩ := (Kd.R_bound h.rg).1 k z
    omega
theorem AS.done (h : AS gv0 wv0 w0 w W b t6 t8 gv wv G H r q) : BookIs w0 W b gv wv G H ∧ Still b gv0 wv0 w W gv wv :=
  ⟨⟨h.hb, Kd.R_mono h.rg (fun _ _ => trivial), Kd.R_mono h.rh (fun _ _ => trivial), h.ap, h.be, h.ge⟩, h.ok⟩
end
theorem info_row : (Try.prog.info? 31).map (fun i => (i.zero, i.size, i.bytes)) = some (some (.agg #[.int .i64 0, .slice none 0 0]), 2, 32) := by kernel_rfl
theorem rows_ {w0 w W : World} {b t6 t8 : Nat} {gv0 wv0 gv wv a0 a1 b0 b1 : Value} {G H : List (List Value)} (h : AS gv0 wv0 w0 w W b t6 t8 gv wv G H [a0, a1] [b0, b1]) : W.cell? ⟨t6, 0, none⟩ = some a0 ∧ W.cell? ⟨t6, 1, none⟩ = some a1 ∧ W.cell? ⟨t8, 0, none⟩ = some b0 ∧ W.cell? ⟨t8, 1, none⟩ = some b1 :=
  ⟨(blk_cell h.h6 0).trans rfl, (blk_cell h.h6 1).trans rfl, (blk_cell h.h8 0).trans rfl, (blk_cell h.h8 1).trans rfl⟩
set_option maxHeartbeats 4000000 in
set_option maxRecDepth 100000 in
theorem adds (k : Nat) (w0 w : World) (b : Nat) (gv wv : Value) (G H : List (List Value)) (n er : Int) (A A' : Option Addr) (c c' : Nat) (xs : List Int) (hBK : BookIs w0 w b gv wv G H) (hL : G.length ≤ 1000 ∧ H.length ≤ 1000)
    (hC : Kd.C (Kd.int .u64) w A xs.length xs) (hl1 : xs.length ≤ c) (hC2 : Kd.C (Kd.int .u64) w A' xs.length xs) (hl2 : xs.length ≤ c') (hS : vivariumref02_Same.f k n xs n xs = some true) :
    Calls Try.prog 20 #[.pointer (some ⟨b, 0, none⟩), .agg #[.int .i64 n, .slice A xs.length c], .int .i64 er, .agg #[.int .i64 n, .slice A' xs.length c'], .int .i64 er] w
      fun e w' => e = .returned (.tuple #[]) ∧ ∃ gv' wv', BookIs w0 w' b gv' wv' (G ++ [[.int .i64 n, .slice A xs.length c]]) (H ++ [[.int .i64 n, .slice A' xs.length c']]) ∧ Still b gv wv w w' gv' wv' := by
  have HBK := Aside0.mk hBK; have HL := Aside0.mk hL; have HC := Aside0.mk hC; have HL1 := Aside0.mk hl1; have HC2 := Aside0.mk hC2; have HL2 := Aside0.mk hl2; have HS := Aside0.mk hS
  have hu := Try.underlying31
  clear hBK hL hC hl1 hC2 hl2 hS
  go_enter Try.func20, Try.ntmps20
  go_wp2_with (first
    | ((with_reducible refine gate_dst (N := 6) rfl ?_); refine box_event ?hg6 (N := 6) ?hd6 (cs := #[.int .i64 n, .slice A xs.length c]) (t := 31) ?hr6 ?_; (case hd6 => rfl); (case hg6 => rfl); (case hr6 => first | (go_simp; done) | (go_simp; rfl)); intro t6 g6 W6 x6 hb6)
    | ((with_reducible refine gate_dst (N := 8) rfl ?_); refine box_event ?hg8 (N := 8) ?hd8 (cs := #[.int .i64 n, .slice A' xs.length c']) (t := 31) ?hr8 ?_; (case hd8 => rfl); (case hg8 => rfl); (case hr8 => first | (go_simp; done) | (go_simp; rfl)); intro t8 g8 W8 x8 hb8; have hF_ := AS.start HBK.out (Nat.le_of_eq g6.symm) (by rw [g8]; exact hb6.size) W8 (chain_ hb6 hb8) (hb8.block t6 (blk_lt x6) |>.trans x6) x8; have F := Aside0.mk hF_; have HW := Aside0.mk (chain_ hb6 hb8); clear hF_ g6 g8 hb6 hb8 x6 x8; obtain ⟨y0, y1, y2, y3⟩ := rows_ F.out)
    | (go_at_call 49; with_reducible refine (vivariumref02_Same.calls k n A c xs n A' c' xs true _ (Kd.C_below HC.out HW.out) HL1.out (Kd.C_below HC2.out HW.out) HL2.out HS.out).mono ?_; rintro e wS ⟨rfl, hb⟩; have hF_ := F.out.on hb; clear F hb y0 y1 y2 y3; have F := Aside0.mk hF_; clear hF_; obtain ⟨y0, y1, y2, y3⟩ := rows_ F.out))
  clear y0 y1 y2 y3
  refine start_ (n := 11) (S := fun w' => w'.cell? ⟨b, 0, none⟩ = some gv ∧ w'.cell? ⟨t6, 0, none⟩ = some (.int .i64 n) ∧ w'.cell? ⟨t6, 1, none⟩ = some (.slice A xs.length c)) (ds := [10]) #[false, false, false, false, false, false, false, false, false, false, false] (by kernel_rfl) rfl rfl ⟨(blk_cell F.out.hb 0).trans rfl, (blk_cell F.out.h6 0).trans rfl, (blk_cell F.out.h6 1).trans rfl⟩ (fun hHeld => ?_)
  replace F := Aside0.mk F.out.drew
  generalize wS.drew = wx at F hHeld ⊢
  refine pure_ (i := 0) (N := (some 24)) (v := ?_) (a' := ?_) #[true, false, false, false, false, false, false, false, false, false, false] rfl rfl (by kernel_rfl) (fun _ _ _ h => h) (Or.inl ⟨by rfl, ?_⟩) ?_ ?_
  rotate_left
  · intro w'
    go_simp
    with_reducible rfl
  rotate_left
  · simp only [Act.put, List.setIfInBounds_toArray, List.set_cons_zero, List.set_cons_succ, i64_w, i32_w]
    rfl
  refine pure_ (i := 1) (N := (some 25)) (v := ?_) (a' := ?_) #[true, true, false, false, false, false, false, false, false, false, false] rfl rfl (by kernel_rfl) (fun _ _ _ h => h) (Or.inl ⟨by rfl, ?_⟩) ?_ ?_
  rotate_left
  · intro w'
    go_simp
    with_reducible rfl
  rotate_left
  · simp only [Act.put, List.setIfInBounds_toArray, List.set_cons_zero, List.set_cons_succ, i64_w, i32_w]
    rfl
  refine pure_ (i := 2) (N := (some 26)) (v := ?_) (a' := ?_) #[true, true, true, false, false, false, false, false, false, false, false] rfl rfl (by kernel_rfl) (fun _ _ _ h => h) (Or.inl ⟨by rfl, ?_⟩) ?_ ?_
  rotate_left
  · intro w'
    go_simp
    with_reducible rfl
  rotate_left
  · simp only [Act.put, List.setIfInBounds_toArray, List.set_cons_zero, List.set_cons_succ, i64_w, i32_w]
    rfl
  refine pure_ (i := 3) (N := (some 27)) (v := ?_) (a' := ?_) #[true, true, true, true, false, false, false, false, false, false, false] rfl rfl (by kernel_rfl) (fun _ _ _ h => h) (Or.inl ⟨by rfl, ?_⟩) ?_ ?_
  rotate_left
  · intro w'
    go_simp
    with_reducible rfl
  rotate_left
  · simp only [Act.put, List.setIfInBounds_toArray, List.set_cons_zero, List.set_cons_succ, i64_w, i32_w]
    rfl
  refine take_ (i := 4) (N := (some 28)) (v := ?_) (a' := ?_) #[true, true, true, true, true, false, false, false, false, false, false] rfl rfl (by kernel_rfl) (fun _ _ _ h => h) (Or.inl ⟨by rfl, ?_⟩) hHeld ?_ ?_
  rotate_left
  · rintro w' ⟨s0, s1, s2⟩
    go_simp
    with_reducible rfl
  rotate_left
  · simp only [Act.put, List.setIfInBounds_toArray, List.set_cons_zero, List.set_cons_succ, i64_w, i32_w]
    rfl
  refine take_ (i := 5) (N := (some 29)) (v := ?_) (a' := ?_) #[true, true, true, true, true, true, false, false, false, false, false] rfl rfl (by kernel_rfl) (fun _ _ _ h => h) (Or.inl ⟨by rfl, ?_⟩) hHeld ?_ ?_
  rotate_left
  · rintro w' ⟨s0, s1, s2⟩
    go_simp
    with_reducible rfl
  rotate_left
  · simp only [Act.put, List.setIfInBounds_toArray, List.set_cons_zero, List.set_cons_succ, i64_w, i32_w]
    rfl
  refine one_ (i := 6) (N := (some 30)) #[true, true, true, true, true, true, true, false, false, false, false] rfl rfl (by kernel_rfl) (by decide) (fun K hK => ?_)
  refine value_ (v := .slice (some ⟨wx.heap.size, 0, none⟩) 1 1) (w1 := wx.alloc (.cells #[.int .i64 n, .slice A xs.length c] 31)) (by rfl) rfl ?_ ?_
  · first | (go_simp; done) | (go_simp; rfl)
  refine hK.out _ _ ⟨(World.cell?_alloc_lt _ _ _ (World.block_lt_of_cell? _ _ hHeld.1)).trans hHeld.1, (World.cell?_alloc_lt _ _ _ (World.block_lt_of_cell? _ _ hHeld.2.1)).trans hHeld.2.1, (World.cell?_alloc_lt _ _ _ (World.block_lt_of_cell? _ _ hHeld.2.2)).trans hHeld.2.2⟩ (fun hHeld => ?_)
  clear hK K
  refine one_ (i := 7) (N := (some 31)) #[true, true, true, true, true, true, true, true, false, false, false] rfl rfl (by kernel_rfl) (by decide) (fun K hK => ?_)
  refine Kd.R_append_step (Kd.raw 2) (w0 := w0) w0.heap.size (by rfl) (.tmp 28) (.tmp 30) 38 31 (.agg #[.int .i64 0, .slice none 0 0]) 32 rfl Try.underlying38 info_row rfl (by decide) (by omega) gv G [.int .i64 n, .slice A xs.length c] [.int .i64 n, .slice A xs.length c] (fun k => k ≠ b ∧ k ≠ t6 ∧ k ≠ t8) (fun _ => False) rfl ?_ ?_ (fun _ hk => hk.elim) ?_ ?_ ?_ ?_ ?_ ?_
  · rfl
  · exact ⟨rfl, rfl, by intro u hu; simp at hu; rcases hu with rfl | rfl <;> rfl⟩
  · exact fun k hk => ⟨by have := blk_lt F.out.hb; omega, by have := blk_lt F.out.h6; omega, by have := blk_lt F.out.h8; omega⟩
  · exact F.out.rg
  · exact F.out.be
  · exact F.out.be.size
  · have := HL.out; omega
  intro pv1 w1 hr1 hb1 hg1 hat1
  have nb_ := Kd.R_away (g := b) F.out.rg (fun _ hk => hk.1)
  have nt_ := Kd.R_away (g := t6) F.out.rg (fun _ hk => hk.2.1)
  have lb_ := blk_lt F.out.hb
  have lt_ := blk_lt F.out.h6
  refine hK.out _ _ ⟨cell_grown hg1 (cell_unalloc hHeld.1 lb_) nb_, cell_grown hg1 (cell_unalloc hHeld.2.1 lt_) nt_, cell_grown hg1 (cell_unalloc hHeld.2.2 lt_) nt_⟩ (fun hHeld => ?_)
  clear hK K nt_ lt_ lb_
  refine norm_ (a' := ?_) ?_ ?_
  rotate_left
  · show Act.put _ (some 31) _ = _
    simp only [Act.put, List.setIfInBounds_toArray, List.set_cons_zero, List.set_cons_succ, i64_w, i32_w]
    rfl
  have HB3 := Aside0.mk (blk_grown F.out.hb hg1 nb_)
  clear nb_
  have sl_ : ∃ A1 n1 c1, pv1 = .slice A1 n1 c1 := by obtain ⟨A1, c1, e⟩ := Kd.R_slice hr1; exact ⟨A1, _, c1, e⟩
  replace F := Aside0.mk (F.out.app1 hr1 hb1 hg1 hat1)
  clear hr1 hb1 hg1 hat1
  refine pure_ (i := 8) (N := (some 32)) (v := ?_) (a' := ?_) #[true, true, true, true, true, true, true, true, true, false, false] rfl rfl (by kernel_rfl) (fun _ _ _ h => h) (Or.inl ⟨by rfl, ?_⟩) ?_ ?_
  rotate_left
  · intro w'
    go_simp
    with_reducible rfl
  rotate_left
  · simp only [Act.put, List.setIfInBounds_toArray, List.set_cons_zero, List.set_cons_succ, i64_w, i32_w]
    rfl
  refine pure_ (i := 9) (N := (some 33)) (v := ?_) (a' := ?_) #[true, true, true, true, true, true, true, true, true, true, false] rfl rfl (by kernel_rfl) (fun _ _ _ h => h) (Or.inl ⟨by rfl, ?_⟩) ?_ ?_
  rotate_left
  · intro w'
    go_simp
    with_reducible rfl
  rotate_left
  · simp only [Act.put, List.setIfInBounds_toArray, List.set_cons_zero, List.set_cons_succ, i64_w, i32_w]
    rfl
  refine last_ (i := 10) (N := none) #[true, true, true, true, true, true, true, true, true, true, true] rfl rfl (by kernel_rfl) (by decide) (fun K hK => ?_)
  have gc_ := (blk_cell HB3.out 0).trans (show ((#[gv, wv, Value.bool false] : Array Value)[0]?) = some gv from rfl)
  have gf_ := blk_frozen HB3.out 0
  refine skip_ (w1 := w1.setCell ⟨b, 0, none⟩ pv1) (by rfl) rfl ?_ ?_
  · obtain ⟨A1, n1, c1, rfl⟩ := sl_; first | (go_simp; done) | (go_simp; rfl)
  refine hK.out _ _ ?_
  clear hK K gc_ gf_ hHeld HB3
  generalize w1.setCell ⟨b, 0, none⟩ pv1 = wa at F ⊢
  clear sl_
  refine done_ (by kernel_rfl) ?_
  generalize hgv_ : pv1 = gvN at F ⊢
  clear hgv_
  try go_wp2
  refine start_ (n := 11) (S := fun w' => w'.cell? ⟨b, 1, none⟩ = some wv ∧ w'.cell? ⟨t8, 0, none⟩ = some (.int .i64 n) ∧ w'.cell? ⟨t8, 1, none⟩ = some (.slice A' xs.length c')) (ds := [10]) #[false, false, false, false, false, false, false, false, false, false, false] (by kernel_rfl) rfl rfl ⟨(blk_cell F.out.hb 1).trans rfl, (blk_cell F.out.h8 0).trans rfl, (blk_cell F.out.h8 1).trans rfl⟩ (fun hHeld => ?_)
  replace F := Aside0.mk F.out.drew
  generalize wa.drew = wx at F hHeld ⊢
  refine pure_ (i := 0) (N := (some 34)) (v := ?_) (a' := ?_) #[true, false, false, false, false, false, false, false, false, false, false] rfl rfl (by kernel_rfl) (fun _ _ _ h => h) (Or.inl ⟨by rfl, ?_⟩) ?_ ?_
  rotate_left
  · intro w'
    go_simp
    with_reducible rfl
  rotate_left
  · simp only [Act.put, List.setIfInBounds_toArray, List.set_cons_zero, List.set_cons_succ, i64_w, i32_w]
    rfl
  refine pure_ (i := 1) (N := (some 35)) (v := ?_) (a' := ?_) #[true, true, false, false, false, false, false, false, false, false, false] rfl rfl (by kernel_rfl) (fun _ _ _ h => h) (Or.inl ⟨by rfl, ?_⟩) ?_ ?_
  rotate_left
  · intro w'
    go_simp
    with_reducible rfl
  rotate_left
  · simp only [Act.put, List.setIfInBounds_toArray, List.set_cons_zero, List.set_cons_succ, i64_w, i32_w]
    rfl
  refine pure_ (i := 2) (N := (some 36)) (v := ?_) (a' := ?_) #[true, true, true, false, false, false, false, false, false, false, false] rfl rfl (by kernel_rfl) (fun _ _ _ h => h) (Or.inl ⟨by rfl, ?_⟩) ?_ ?_
  rotate_left
  · intro w'
    go_simp
    with_reducible rfl
  rotate_left
  · simp only [Act.put, List.setIfInBounds_toArray, List.set_cons_zero, List.set_cons_succ, i64_w, i32_w]
    rfl
  refine pure_ (i := 3) (N := (some 37)) (v := ?_) (a' := ?_) #[true, true, true, true, false, false, false, false, false, false, false] rfl rfl (by kernel_rfl) (fun _ _ _ h => h) (Or.inl ⟨by rfl, ?_⟩) ?_ ?_
  rotate_left
  · intro w'
    go_simp
    with_reducible rfl
  rotate_left
  · simp only [Act.put, List.setIfInBounds_toArray, List.set_cons_zero, List.set_cons_succ, i64_w, i32_w]
    rfl
  refine take_ (i := 4) (N := (some 38)) (v := ?_) (a' := ?_) #[true, true, true, true, true, false, false, false, false, false, false] rfl rfl (by kernel_rfl) (fun _ _ _ h => h) (Or.inl ⟨by rfl, ?_⟩) hHeld ?_ ?_
  rotate_left
  · rintro w' ⟨s0, s1, s2⟩
    go_simp
    with_reducible rfl
  rotate_left
  · simp only [Act.put, List.setIfInBounds_toArray, List.set_cons_zero, List.set_cons_succ, i64_w, i32_w]
    rfl
  refine take_ (i := 5) (N := (some 39)) (v := ?_) (a' := ?_) #[true, true, true, true, true, true, false, false, false, false, false] rfl rfl (by kernel_rfl) (fun _ _ _ h => h) (Or.inl ⟨by rfl, ?_⟩) hHeld ?_ ?_
  rotate_left
  · rintro w' ⟨s0, s1, s2⟩
    go_simp
    with_reducible rfl
  rotate_left
  · simp only [Act.put, List.setIfInBounds_toArray, List.set_cons_zero, List.set_cons_succ, i64_w, i32_w]
    rfl
  refine one_ (i := 6) (N := (some 40)) #[true, true, true, true, true, true, true, false, false, false, false] rfl rfl (by kernel_rfl) (by decide) (fun K hK => ?_)
  refine value_ (v := .slice (some ⟨wx.heap.size, 0, none⟩) 1 1) (w1 := wx.alloc (.cells #[.int .i64 n, .slice A' xs.length c'] 31)) (by rfl) rfl ?_ ?_
  · first | (go_simp; done) | (go_simp; rfl)
  refine hK.out _ _ ⟨(World.cell?_alloc_lt _ _ _ (World.block_lt_of_cell? _ _ hHeld.1)).trans hHeld.1, (World.cell?_alloc_lt _ _ _ (World.block_lt_of_cell? _ _ hHeld.2.1)).trans hHeld.2.1, (World.cell?_alloc_lt _ _ _ (World.block_lt_of_cell? _ _ hHeld.2.2)).trans hHeld.2.2⟩ (fun hHeld => ?_)
  clear hK K
  refine one_ (i := 7) (N := (some 41)) #[true, true, true, true, true, true, true, true, false, false, false] rfl rfl (by kernel_rfl) (by decide) (fun K hK => ?_)
  refine Kd.R_append_step (Kd.raw 2) (w0 := w0) w0.heap.size (by rfl) (.tmp 38) (.tmp 40) 38 31 (.agg #[.int .i64 0, .slice none 0 0]) 32 rfl Try.underlying38 info_row rfl (by decide) (by omega) wv H [.int .i64 n, .slice A' xs.length c'] [.int .i64 n, .slice A' xs.length c'] (fun k => k ≠ b ∧ k ≠ t6 ∧ k ≠ t8) (fun _ => False) rfl ?_ ?_ (fun _ hk => hk.elim) ?_ ?_ ?_ ?_ ?_ ?_
  · rfl
  · exact ⟨rfl, rfl, by intro u hu; simp at hu; rcases hu with rfl | rfl <;> rfl⟩
  · exact fun k hk => ⟨by have := blk_lt F.out.hb; omega, by have := blk_lt F.out.h6; omega, by have := blk_lt F.out.h8; omega⟩
  · exact F.out.rh
  · exact F.out.be
  · exact F.out.be.size
  · have := HL.out; omega
  intro pv1 w1 hr1 hb1 hg1 hat1
  have nb_ := Kd.R_away (g := b) F.out.rh (fun _ hk => hk.1)
  have nt_ := Kd.R_away (g := t8) F.out.rh (fun _ hk => hk.2.2)
  have lb_ := blk_lt F.out.hb
  have lt_ := blk_lt F.out.h8
  refine hK.out _ _ ⟨cell_grown hg1 (cell_unalloc hHeld.1 lb_) nb_, cell_grown hg1 (cell_unalloc hHeld.2.1 lt_) nt_, cell_grown hg1 (cell_unalloc hHeld.2.2 lt_) nt_⟩ (fun hHeld => ?_)
  clear hK K nt_ lt_ lb_
  refine norm_ (a' := ?_) ?_ ?_
  rotate_left
  · show Act.put _ (some 41) _ = _
    simp only [Act.put, List.setIfInBounds_toArray, List.set_cons_zero, List.set_cons_succ, i64_w, i32_w]
    rfl
  have HB3 := Aside0.mk (blk_grown F.out.hb hg1 nb_)
  clear nb_
  have sl_ : ∃ A1 n1 c1, pv1 = .slice A1 n1 c1 := by obtain ⟨A1, c1, e⟩ := Kd.R_slice hr1; exact ⟨A1, _, c1, e⟩
  replace F := Aside0.mk (F.out.app2 hr1 hb1 hg1 hat1)
  clear hr1 hb1 hg1 hat1
  refine pure_ (i := 8) (N := (some 42)) (v := ?_) (a' := ?_) #[true, true, true, true, true, true, true, true, true, false, false] rfl rfl (by kernel_rfl) (fun _ _ _ h => h) (Or.inl ⟨by rfl, ?_⟩) ?_ ?_
  rotate_left
  · intro w'
    go_simp
    with_reducible rfl
  rotate_left
  · simp only [Act.put, List.setIfInBounds_toArray, List.set_cons_zero, List.set_cons_succ, i64_w, i32_w]
    rfl
  refine pure_ (i := 9) (N := (some 43)) (v := ?_) (a' := ?_) #[true, true, true, true, true, true, true, true, true, true, false] rfl rfl (by kernel_rfl) (fun _ _ _ h => h) (Or.inl ⟨by rfl, ?_⟩) ?_ ?_
  rotate_left
  · intro w'
    go_simp
    with_reducible rfl
  rotate_left
  · simp only [Act.put, List.setIfInBounds_toArray, List.set_cons_zero, List.set_cons_succ, i64_w, i32_w]
    rfl
  refine last_ (i := 10) (N := none) #[true, true, true, true, true, true, true, true, true, true, true] rfl rfl (by kernel_rfl) (by decide) (fun K hK => ?_)
  have gc_ := (blk_cell HB3.out 1).trans (show ((#[gvN, wv, Value.bool false] : Array Value)[1]?) = some wv from rfl)
  have gf_ := blk_frozen HB3.out 1
  refine skip_ (w1 := w1.setCell ⟨b, 1, none⟩ pv1) (by rfl) rfl ?_ ?_
  · obtain ⟨A1, n1, c1, rfl⟩ := sl_; first | (go_simp; done) | (go_simp; rfl)
  refine hK.out _ _ ?_
  clear hK K gc_ gf_ hHeld HB3
  generalize w1.setCell ⟨b, 1, none⟩ pv1 = wz at F ⊢
  clear sl_
  refine done_ (by kernel_rfl) ?_
  try go_wp2
  go_end0
  exact ⟨rfl, _, _, F.out.done⟩
end Go.Proofs.Ytlghmadoogblcaa.Book
