/- topo.tail: what stands behind a side is written into a builder of the call's own. -/
import Derived.Test.YtmcidodpnhkdfaaDoorBuilder
import Derived.Test.YtmcidodpnhkdfaaDoorText
import Derived.Test.YtmcidodpnhkdfaaDoorPrintPlain
import Derived.Test.YtmcidodpnhkdfaaDoorWords
import Derived.Lib.BufferKept
namespace Go.Proofs.YtmcidodpnhkdfaaDoor.Tail
open Go.RowKit Go.Proofs.YtmcidodpnhkdfaaDoorW.PrintWords Go.Proofs.YtmcidodpnhkdfaaDoor.Box Go.Proofs.YtmcidodpnhkdfaaDoor.Text Go.Proofs.YtmcidodpnhkdfaaDoor.PrintPlain
set_option linter.unusedVariables false
set_option linter.unusedSimpArgs false

theorem itoa_len (n : Int) (h0 : -65536 ≤ n) (h1 : n ≤ 65536) : (Lib.itoa n).length ≤ 6 := by
  by_cases c : n < 0
  · obtain ⟨m, rfl⟩ : ∃ m : Nat, n = -(m : Int) := ⟨n.natAbs, by omega⟩
    rw [itoa_neg m (by omega), List.length_cons]
    have := side_len m (by omega)
    omega
  · obtain ⟨m, rfl⟩ : ∃ m : Nat, n = (m : Int) := ⟨n.natAbs, by omega⟩
    rw [itoa_nat]
    have := side_len m (by omega)
    omega
theorem mono {B B' : Nat} {w w' : World} (h : Below B w w') (hb : B' ≤ B) : Below B' w w' := ⟨h.os, h.tape, h.output, h.size, fun k hk => h.block k (Nat.lt_of_lt_of_le hk hb)⟩
theorem isb_on {W W' : World} {b : Nat} {l : List Value} (h : Lib.IsBuilder 51 5 b b l W) (hb : Below W.heap.size W W') : Lib.IsBuilder 51 5 b b l W' := by
  have go : ∀ p, Lib.BuilderAt 51 5 b b p l W → Lib.BuilderAt 51 5 b b p l W' := by
    rintro p ⟨hB, v, hbk, ⟨h1, h2⟩, hne⟩
    refine ⟨hB, v, (hb.block b (Bld.in_heap hbk)).trans hbk, ⟨h1, ?_⟩, hne⟩
    rcases h2 with h | ⟨g, cap, cur, hv, hg, hh, hr⟩
    · exact .inl h
    · exact .inr ⟨g, cap, cur, hv, hg, (hb.block g (Bld.in_heap hh)).trans hh, hr⟩
  exact h.imp (go _) (go _)
/-- A topology's block, a builder's, and what stays. -/
structure TB (w00 w0 : World) (t b : Nat) (v0 v1 v2 v3 v4 : Value) (l : List UInt8) (W : World) : Prop where
  bx : W.heap[t]? = some (.cells #[v0, v1, v2, v3, v4] 23 (0, 0))
  bld : Lib.IsBuilder 51 5 b b (Lib.byteCells l) W
  le : w00.heap.size ≤ b
  ne : t ≠ b
  be : Below w00.heap.size w00 W
  bb : Below b w0 W
  ok : Lib.OthersKept 5 (some b) w0 W
section
variable {w00 w0 W W' : World} {t b : Nat} {v0 v1 v2 v3 v4 : Value} {l : List UInt8}
theorem TB.blt (h : TB w00 w0 t b v0 v1 v2 v3 v4 l W) : b < W.heap.size := by rcases h.bld with x | x <;> exact x.lt
theorem TB.cells (h : TB w00 w0 t b v0 v1 v2 v3 v4 l W) : W.cell? ⟨t, 0, none⟩ = some v0 ∧ W.cell? ⟨t, 1, none⟩ = some v1 ∧ W.cell? ⟨t, 2, none⟩ = some v2 ∧ W.cell? ⟨t, 3, none⟩ = some v3 ∧ W.cell? ⟨t, 4, none⟩ = some v4 :=
  ⟨(blk_cell h.bx 0).trans rfl, (blk_cell h.bx 1).trans rfl, (blk_cell h.bx 2).trans rfl, (blk_cell h.bx 3).trans rfl, (blk_cell h.bx 4).trans rfl⟩
theorem TB.on (h : TB w00 w0 t b v0 v1 v2 v3 v4 l W) (hb : Below W.heap.size W W') : TB w00 w0 t b v0 v1 v2 v3 v4 l W' :=
  ⟨(hb.block t (Bld.in_heap h.bx)).trans h.bx, isb_on h.bld hb, h.le, h.ne, chain h.be hb, h.bb.trans (mono hb (Nat.le_of_lt h.blt)), h.ok.below hb⟩
theorem TB.drewN (h : TB w00 w0 t b v0 v1 v2 v3 v4 l W) (n : Nat) : TB w00 w0 t b v0 v1 v2 v3 v4 l (W.drewN n) := h.on (pw_below_drewN (Below.refl _ _) n)
theorem TB.write (h : TB w00 w0 t b v0 v1 v2 v3 v4 l W) (cs : List UInt8) (hI : Lib.IsBuilder 51 5 b b (Lib.byteCells l ++ Lib.byteCells cs) W') (hb : Below b W W') (hk : Lib.OthersKept 5 (some b) W W') : TB w00 w0 t b v0 v1 v2 v3 v4 (l ++ cs) W' :=
  ⟨hk t _ h.bx (by simp only [ne_eq, Option.some.injEq]; exact h.ne) (by intro c fz e; injection e with _ e; exact absurd e (by decide)), by rw [Lib.byteCells_append]; exact hI, h.le, h.ne, h.be.trans (mono hb h.le), h.bb.trans hb, h.ok.trans hk⟩
theorem TB.byte (h : TB w00 w0 t b v0 v1 v2 v3 v4 l W) (c : UInt8) (x : Int) (hx : x = (c.toNat : Int)) (hl : l.length ≤ 1000) :
    Calls Tryd.prog 22 #[.pointer (some ⟨b, 0, none⟩), .int .u8 x] W fun e W' => e = .returned .nilIface ∧ TB w00 w0 t b v0 v1 v2 v3 v4 (l ++ [c]) W' := by
  subst hx
  refine (Bld.byte b b _ _ W h.bld (by rw [Lib.byteCells_length]; omega) (Nat.le_of_lt h.blt)).mono ?_
  rintro e W' ⟨rfl, h1, h2, h3⟩
  exact ⟨rfl, h.write [c] h1 h2 h3⟩
theorem TB.text (h : TB w00 w0 t b v0 v1 v2 v3 v4 l W) (d : List UInt8) (hd : d.length ≤ 1000) (hl : l.length ≤ 1000) :
    Calls Tryd.prog 24 #[.pointer (some ⟨b, 0, none⟩), .string ⟨d.toArray⟩] W fun e W' => e = .returned (.tuple #[.int .i64 (⟨d.toArray⟩ : ByteArray).size, .nilIface]) ∧ TB w00 w0 t b v0 v1 v2 v3 v4 (l ++ d) W' := by
  have hs : (⟨d.toArray⟩ : ByteArray).size = d.length := by simp [← ByteArray.size_data]
  refine (Bld.text b b _ _ W h.bld (by rw [Lib.byteCells_length, hs]; omega) (Nat.le_of_lt h.blt)).mono ?_
  rintro e W' ⟨rfl, h1, h2, h3⟩
  exact ⟨rfl, h.write d (by simpa [Lib.strCells, Lib.byteCells] using h1) h2 h3⟩
theorem TB.num (h : TB w00 w0 t b v0 v1 v2 v3 v4 l W) (n : Int) (h0 : -65536 ≤ n) (h1 : n ≤ 65536) (hp : Pow w00) :
    Calls Tryd.prog 25 #[.int .i64 n] W fun e W' => e = .returned (.string ⟨(Lib.itoa n).toArray⟩) ∧ TB w00 w0 t b v0 v1 v2 v3 v4 l W' := by
  refine (text_any n (by omega) (by omega) W (hp.on h.be)).mono ?_
  rintro e W' ⟨rfl, hb⟩
  exact ⟨rfl, h.on hb⟩
theorem TB.start {w W1 : World} (h : Lib.IsBuilder 51 5 b b (Lib.byteCells l) w) (le : w00.heap.size ≤ b) (hb0 : Below w00.heap.size w00 w) (hg : t = w.heap.size) (hbox : W1.heap[t]? = some (.cells #[v0, v1, v2, v3, v4] 23 (0, 0))) (hb : Below w.heap.size w W1) :
    TB w00 w t b v0 v1 v2 v3 v4 l W1 := by
  have hlt : b < w.heap.size := by rcases h with x | x <;> exact x.lt
  exact ⟨hbox, isb_on h hb, le, by omega, chain hb0 hb, mono hb (Nat.le_of_lt hlt), (Lib.OthersKept.refl _ _ w).below hb⟩
theorem TB.startP {w W1 : World} (bx : W.heap[t]? = some (.cells #[v0, v1, v2, v3, v4] 23 (0, 0))) (hB : Below w.heap.size w W) (hg : b = W.heap.size) (hbb : W1.heap[b]? = some (.cells #[.pointer none, .slice none 0 0] 51 (0, 0))) (hb : Below W.heap.size W W1) :
    TB w W1 t b v0 v1 v2 v3 v4 [] W1 := by
  have ht := Bld.in_heap bx
  exact ⟨(hb.block t ht).trans bx, .inl ⟨Nat.le_refl _, .slice none 0 0, hbb, World.ownsRow_nil _ _ _ _, by simp [Value.ownBlock]⟩, hg ▸ hB.size, by omega, chain hB hb, Below.refl _ _, Lib.OthersKept.refl _ _ _⟩
end
/-- tail. -/
def After (w00 w : World) (b : Nat) (l : List UInt8) (w' : World) : Prop :=
  Lib.IsBuilder 51 5 b b (Lib.byteCells l) w' ∧ Below b w w' ∧ Lib.OthersKept 5 (some b) w w'
theorem TB.done {w00 w W : World} {t b : Nat} {v0 v1 v2 v3 v4 : Value} {l m : List UInt8} (h : TB w00 w t b v0 v1 v2 v3 v4 l W) (e : l = m) : After w00 w b m W := e ▸ ⟨h.bld, h.bb, h.ok⟩
set_option maxHeartbeats 4000000 in
set_option maxRecDepth 100000 in
theorem t_no (want k wd h u s : Int) (s0 : -65536 ≤ s) (s1 : s ≤ 65536) (c1 : (u != want) = true) (w00 w : World) (b : Nat) (l : List UInt8) (hl : l.length ≤ 100) (hI : Lib.IsBuilder 51 5 b b (Lib.byteCells l) w) (le : w00.heap.size ≤ b) (hb0 : Below w00.heap.size w00 w) (hp : Pow w00) :
    Calls Tryd.prog 26 #[.pointer (some ⟨b, 0, none⟩), .agg #[.int .u8 k, .int .i64 wd, .int .i64 h, .int .u8 u, .int .i64 s], .int .u8 want] w fun e w' => e = .returned (.tuple #[]) ∧ After w00 w b (l) w' := by
  have HI := Aside0.mk hI; have LE := Aside0.mk le; have HB0 := Aside0.mk hb0; have HL := Aside0.mk hl; have HP := Aside0.mk hp
  have S0 := Aside0.mk s0; have S1 := Aside0.mk s1; clear s0 s1
  have hu := Tryd.underlying23
  clear hI le hb0 hl hp
  go_enter Tryd.func26, Tryd.ntmps26
  go_wp2_with (first
    | ((with_reducible refine gate_dst (N := 4) rfl ?_); refine box_event ?hg (N := 4) ?hd (cs := #[.int .u8 k, .int .i64 wd, .int .i64 h, .int .u8 u, .int .i64 s]) (t := 23) ?hr ?_; (case hd => rfl); (case hg => rfl); (case hr => first | (go_simp; done) | (go_simp; rfl)); intro t hg W1 hbox hb; have hF_ := TB.start HI.out LE.out HB0.out hg hbox hb; have F := Aside0.mk hF_; clear hF_ hg hbox hb; obtain ⟨gc0, gc1, gc2, gc3, gc4⟩ := F.out.cells))
  refine bodyPost_ret (results_none rfl _ _ _) rfl ?_
  exact ⟨rfl, TB.done F.out (by simp)⟩
set_option maxHeartbeats 4000000 in
set_option maxRecDepth 100000 in
theorem t_3z (want wd h : Int) (w00 w : World) (b : Nat) (l : List UInt8) (hl : l.length ≤ 100) (hI : Lib.IsBuilder 51 5 b b (Lib.byteCells l) w) (le : w00.heap.size ≤ b) (hb0 : Below w00.heap.size w00 w) (hp : Pow w00) :
    Calls Tryd.prog 26 #[.pointer (some ⟨b, 0, none⟩), .agg #[.int .u8 3, .int .i64 wd, .int .i64 h, .int .u8 want, .int .i64 0], .int .u8 want] w fun e w' => e = .returned (.tuple #[]) ∧ After w00 w b (l ++ [42]) w' := by
  have HI := Aside0.mk hI; have LE := Aside0.mk le; have HB0 := Aside0.mk hb0; have HL := Aside0.mk hl; have HP := Aside0.mk hp
  have hu := Tryd.underlying23
  clear hI le hb0 hl hp
  go_enter Tryd.func26, Tryd.ntmps26
  go_wp2_with (first
    | ((with_reducible refine gate_dst (N := 4) rfl ?_); refine box_event ?hg (N := 4) ?hd (cs := #[.int .u8 3, .int .i64 wd, .int .i64 h, .int .u8 want, .int .i64 0]) (t := 23) ?hr ?_; (case hd => rfl); (case hg => rfl); (case hr => first | (go_simp; done) | (go_simp; rfl)); intro t hg W1 hbox hb; have hF_ := TB.start HI.out LE.out HB0.out hg hbox hb; have F := Aside0.mk hF_; clear hF_ hg hbox hb; obtain ⟨gc0, gc1, gc2, gc3, gc4⟩ := F.out.cells)
    | (go_at_call 22; have h_ := TB.byte F.out 42 42 rfl (by have := HL.out; (try simp only [List.length_append, List.length_cons, List.length_nil]); (try have := itoa_len s S0.out S1.out); omega); with_reducible refine h_.mono ?_; clear h_; rintro e W2 ⟨rfl, hF_⟩; clear F gc0 gc1 gc2 gc3 gc4; have F := Aside0.mk hF_; clear hF_; obtain ⟨gc0, gc1, gc2, gc3, gc4⟩ := F.out.cells))
  go_end0
  exact ⟨rfl, TB.done F.out (by simp)⟩
set_option maxHeartbeats 4000000 in
set_option maxRecDepth 100000 in
theorem t_3p (want wd h s : Int) (s0 : -65536 ≤ s) (s1 : s ≤ 65536) (c4 : (s != 0) = true) (c5 : 0 < s) (w00 w : World) (b : Nat) (l : List UInt8) (hl : l.length ≤ 100) (hI : Lib.IsBuilder 51 5 b b (Lib.byteCells l) w) (le : w00.heap.size ≤ b) (hb0 : Below w00.heap.size w00 w) (hp : Pow w00) :
    Calls Tryd.prog 26 #[.pointer (some ⟨b, 0, none⟩), .agg #[.int .u8 3, .int .i64 wd, .int .i64 h, .int .u8 want, .int .i64 s], .int .u8 want] w fun e w' => e = .returned (.tuple #[]) ∧ After w00 w b (l ++ ([42] ++ ([43] ++ Lib.itoa s))) w' := by
  have HI := Aside0.mk hI; have LE := Aside0.mk le; have HB0 := Aside0.mk hb0; have HL := Aside0.mk hl; have HP := Aside0.mk hp
  have S0 := Aside0.mk s0; have S1 := Aside0.mk s1; clear s0 s1
  have hu := Tryd.underlying23
  clear hI le hb0 hl hp
  go_enter Tryd.func26, Tryd.ntmps26
  go_wp2_with (first
    | ((with_reducible refine gate_dst (N := 4) rfl ?_); refine box_event ?hg (N := 4) ?hd (cs := #[.int .u8 3, .int .i64 wd, .int .i64 h, .int .u8 want, .int .i64 s]) (t := 23) ?hr ?_; (case hd => rfl); (case hg => rfl); (case hr => first | (go_simp; done) | (go_simp; rfl)); intro t hg W1 hbox hb; have hF_ := TB.start HI.out LE.out HB0.out hg hbox hb; have F := Aside0.mk hF_; clear hF_ hg hbox hb; obtain ⟨gc0, gc1, gc2, gc3, gc4⟩ := F.out.cells)
    | (go_at_call 22; have h_ := TB.byte F.out 42 42 rfl (by have := HL.out; (try simp only [List.length_append, List.length_cons, List.length_nil]); (try have := itoa_len s S0.out S1.out); omega); with_reducible refine h_.mono ?_; clear h_; rintro e W2 ⟨rfl, hF_⟩; clear F gc0 gc1 gc2 gc3 gc4; have F := Aside0.mk hF_; clear hF_; obtain ⟨gc0, gc1, gc2, gc3, gc4⟩ := F.out.cells)
    | (go_at_call 22; have h_ := TB.byte F.out 43 43 rfl (by have := HL.out; (try simp only [List.length_append, List.length_cons, List.length_nil]); (try have := itoa_len s S0.out S1.out); omega); with_reducible refine h_.mono ?_; clear h_; rintro e W2 ⟨rfl, hF_⟩; clear F gc0 gc1 gc2 gc3 gc4; have F := Aside0.mk hF_; clear hF_; obtain ⟨gc0, gc1, gc2, gc3, gc4⟩ := F.out.cells)
    | (go_at_call 25; refine (TB.num F.out s S0.out S1.out HP.out).mono ?_; rintro e W2 ⟨rfl, hF_⟩; clear F gc0 gc1 gc2 gc3 gc4; have F := Aside0.mk hF_; clear hF_; obtain ⟨gc0, gc1, gc2, gc3, gc4⟩ := F.out.cells)
    | (go_at_call 24; refine (TB.text F.out (Lib.itoa s) (by have := itoa_len s S0.out S1.out; omega) (by have := HL.out; (try simp only [List.length_append, List.length_cons, List.length_nil]); (try have := itoa_len s S0.out S1.out); omega)).mono ?_; rintro e W2 ⟨rfl, hF_⟩; clear F gc0 gc1 gc2 gc3 gc4; have F := Aside0.mk hF_; clear hF_; obtain ⟨gc0, gc1, gc2, gc3, gc4⟩ := F.out.cells))
  go_end0
  exact ⟨rfl, TB.done F.out (by simp)⟩
set_option maxHeartbeats 4000000 in
set_option maxRecDepth 100000 in
theorem t_3n (want wd h s : Int) (s0 : -65536 ≤ s) (s1 : s ≤ 65536) (c4 : (s != 0) = true) (c5 : ¬ 0 < s) (w00 w : World) (b : Nat) (l : List UInt8) (hl : l.length ≤ 100) (hI : Lib.IsBuilder 51 5 b b (Lib.byteCells l) w) (le : w00.heap.size ≤ b) (hb0 : Below w00.heap.size w00 w) (hp : Pow w00) :
    Calls Tryd.prog 26 #[.pointer (some ⟨b, 0, none⟩), .agg #[.int .u8 3, .int .i64 wd, .int .i64 h, .int .u8 want, .int .i64 s], .int .u8 want] w fun e w' => e = .returned (.tuple #[]) ∧ After w00 w b (l ++ ([42] ++ Lib.itoa s)) w' := by
  have HI := Aside0.mk hI; have LE := Aside0.mk le; have HB0 := Aside0.mk hb0; have HL := Aside0.mk hl; have HP := Aside0.mk hp
  have S0 := Aside0.mk s0; have S1 := Aside0.mk s1; clear s0 s1
  have hu := Tryd.underlying23
  clear hI le hb0 hl hp
  go_enter Tryd.func26, Tryd.ntmps26
  go_wp2_with (first
    | ((with_reducible refine gate_dst (N := 4) rfl ?_); refine box_event ?hg (N := 4) ?hd (cs := #[.int .u8 3, .int .i64 wd, .int .i64 h, .int .u8 want, .int .i64 s]) (t := 23) ?hr ?_; (case hd => rfl); (case hg => rfl); (case hr => first | (go_simp; done) | (go_simp; rfl)); intro t hg W1 hbox hb; have hF_ := TB.start HI.out LE.out HB0.out hg hbox hb; have F := Aside0.mk hF_; clear hF_ hg hbox hb; obtain ⟨gc0, gc1, gc2, gc3, gc4⟩ := F.out.cells)
    | (go_at_call 22; have h_ := TB.byte F.out 42 42 rfl (by have := HL.out; (try simp only [List.length_append, List.length_cons, List.length_nil]); (try have := itoa_len s S0.out S1.out); omega); with_reducible refine h_.mono ?_; clear h_; rintro e W2 ⟨rfl, hF_⟩; clear F gc0 gc1 gc2 gc3 gc4; have F := Aside0.mk hF_; clear hF_; obtain ⟨gc0, gc1, gc2, gc3, gc4⟩ := F.out.cells)
    | (go_at_call 25; refine (TB.num F.out s S0.out S1.out HP.out).mono ?_; rintro e W2 ⟨rfl, hF_⟩; clear F gc0 gc1 gc2 gc3 gc4; have F := Aside0.mk hF_; clear hF_; obtain ⟨gc0, gc1, gc2, gc3, gc4⟩ := F.out.cells)
    | (go_at_call 24; refine (TB.text F.out (Lib.itoa s) (by have := itoa_len s S0.out S1.out; omega) (by have := HL.out; (try simp only [List.length_append, List.length_cons, List.length_nil]); (try have := itoa_len s S0.out S1.out); omega)).mono ?_; rintro e W2 ⟨rfl, hF_⟩; clear F gc0 gc1 gc2 gc3 gc4; have F := Aside0.mk hF_; clear hF_; obtain ⟨gc0, gc1, gc2, gc3, gc4⟩ := F.out.cells))
  go_end0
  exact ⟨rfl, TB.done F.out (by simp)⟩
set_option maxHeartbeats 4000000 in
set_option maxRecDepth 100000 in
theorem t_z (want k wd h : Int) (c3 : (k == 3) = false) (w00 w : World) (b : Nat) (l : List UInt8) (hl : l.length ≤ 100) (hI : Lib.IsBuilder 51 5 b b (Lib.byteCells l) w) (le : w00.heap.size ≤ b) (hb0 : Below w00.heap.size w00 w) (hp : Pow w00) :
    Calls Tryd.prog 26 #[.pointer (some ⟨b, 0, none⟩), .agg #[.int .u8 k, .int .i64 wd, .int .i64 h, .int .u8 want, .int .i64 0], .int .u8 want] w fun e w' => e = .returned (.tuple #[]) ∧ After w00 w b (l) w' := by
  have HI := Aside0.mk hI; have LE := Aside0.mk le; have HB0 := Aside0.mk hb0; have HL := Aside0.mk hl; have HP := Aside0.mk hp
  have hu := Tryd.underlying23
  clear hI le hb0 hl hp
  go_enter Tryd.func26, Tryd.ntmps26
  go_wp2_with (first
    | ((with_reducible refine gate_dst (N := 4) rfl ?_); refine box_event ?hg (N := 4) ?hd (cs := #[.int .u8 k, .int .i64 wd, .int .i64 h, .int .u8 want, .int .i64 0]) (t := 23) ?hr ?_; (case hd => rfl); (case hg => rfl); (case hr => first | (go_simp; done) | (go_simp; rfl)); intro t hg W1 hbox hb; have hF_ := TB.start HI.out LE.out HB0.out hg hbox hb; have F := Aside0.mk hF_; clear hF_ hg hbox hb; obtain ⟨gc0, gc1, gc2, gc3, gc4⟩ := F.out.cells))
  go_end0
  exact ⟨rfl, TB.done F.out (by simp)⟩
set_option maxHeartbeats 4000000 in
set_option maxRecDepth 100000 in
theorem t_p (want k wd h s : Int) (s0 : -65536 ≤ s) (s1 : s ≤ 65536) (c3 : (k == 3) = false) (c4 : (s != 0) = true) (c5 : 0 < s) (w00 w : World) (b : Nat) (l : List UInt8) (hl : l.length ≤ 100) (hI : Lib.IsBuilder 51 5 b b (Lib.byteCells l) w) (le : w00.heap.size ≤ b) (hb0 : Below w00.heap.size w00 w) (hp : Pow w00) :
    Calls Tryd.prog 26 #[.pointer (some ⟨b, 0, none⟩), .agg #[.int .u8 k, .int .i64 wd, .int .i64 h, .int .u8 want, .int .i64 s], .int .u8 want] w fun e w' => e = .returned (.tuple #[]) ∧ After w00 w b (l ++ ([43] ++ Lib.itoa s)) w' := by
  have HI := Aside0.mk hI; have LE := Aside0.mk le; have HB0 := Aside0.mk hb0; have HL := Aside0.mk hl; have HP := Aside0.mk hp
  have S0 := Aside0.mk s0; have S1 := Aside0.mk s1; clear s0 s1
  have hu := Tryd.underlying23
  clear hI le hb0 hl hp
  go_enter Tryd.func26, Tryd.ntmps26
  go_wp2_with (first
    | ((with_reducible refine gate_dst (N := 4) rfl ?_); refine box_event ?hg (N := 4) ?hd (cs := #[.int .u8 k, .int .i64 wd, .int .i64 h, .int .u8 want, .int .i64 s]) (t := 23) ?hr ?_; (case hd => rfl); (case hg => rfl); (case hr => first | (go_simp; done) | (go_simp; rfl)); intro t hg W1 hbox hb; have hF_ := TB.start HI.out LE.out HB0.out hg hbox hb; have F := Aside0.mk hF_; clear hF_ hg hbox hb; obtain ⟨gc0, gc1, gc2, gc3, gc4⟩ := F.out.cells)
    | (go_at_call 22; have h_ := TB.byte F.out 43 43 rfl (by have := HL.out; (try simp only [List.length_append, List.length_cons, List.length_nil]); (try have := itoa_len s S0.out S1.out); omega); with_reducible refine h_.mono ?_; clear h_; rintro e W2 ⟨rfl, hF_⟩; clear F gc0 gc1 gc2 gc3 gc4; have F := Aside0.mk hF_; clear hF_; obtain ⟨gc0, gc1, gc2, gc3, gc4⟩ := F.out.cells)
    | (go_at_call 25; refine (TB.num F.out s S0.out S1.out HP.out).mono ?_; rintro e W2 ⟨rfl, hF_⟩; clear F gc0 gc1 gc2 gc3 gc4; have F := Aside0.mk hF_; clear hF_; obtain ⟨gc0, gc1, gc2, gc3, gc4⟩ := F.out.cells)
    | (go_at_call 24; refine (TB.text F.out (Lib.itoa s) (by have := itoa_len s S0.out S1.out; omega) (by have := HL.out; (try simp only [List.length_append, List.length_cons, List.length_nil]); (try have := itoa_len s S0.out S1.out); omega)).mono ?_; rintro e W2 ⟨rfl, hF_⟩; clear F gc0 gc1 gc2 gc3 gc4; have F := Aside0.mk hF_; clear hF_; obtain ⟨gc0, gc1, gc2, gc3, gc4⟩ := F.out.cells))
  go_end0
  exact ⟨rfl, TB.done F.out (by simp)⟩
set_option maxHeartbeats 4000000 in
set_option maxRecDepth 100000 in
theorem t_n (want k wd h s : Int) (s0 : -65536 ≤ s) (s1 : s ≤ 65536) (c3 : (k == 3) = false) (c4 : (s != 0) = true) (c5 : ¬ 0 < s) (w00 w : World) (b : Nat) (l : List UInt8) (hl : l.length ≤ 100) (hI : Lib.IsBuilder 51 5 b b (Lib.byteCells l) w) (le : w00.heap.size ≤ b) (hb0 : Below w00.heap.size w00 w) (hp : Pow w00) :
    Calls Tryd.prog 26 #[.pointer (some ⟨b, 0, none⟩), .agg #[.int .u8 k, .int .i64 wd, .int .i64 h, .int .u8 want, .int .i64 s], .int .u8 want] w fun e w' => e = .returned (.tuple #[]) ∧ After w00 w b (l ++ Lib.itoa s) w' := by
  have HI := Aside0.mk hI; have LE := Aside0.mk le; have HB0 := Aside0.mk hb0; have HL := Aside0.mk hl; have HP := Aside0.mk hp
  have S0 := Aside0.mk s0; have S1 := Aside0.mk s1; clear s0 s1
  have hu := Tryd.underlying23
  clear hI le hb0 hl hp
  go_enter Tryd.func26, Tryd.ntmps26
  go_wp2_with (first
    | ((with_reducible refine gate_dst (N := 4) rfl ?_); refine box_event ?hg (N := 4) ?hd (cs := #[.int .u8 k, .int .i64 wd, .int .i64 h, .int .u8 want, .int .i64 s]) (t := 23) ?hr ?_; (case hd => rfl); (case hg => rfl); (case hr => first | (go_simp; done) | (go_simp; rfl)); intro t hg W1 hbox hb; have hF_ := TB.start HI.out LE.out HB0.out hg hbox hb; have F := Aside0.mk hF_; clear hF_ hg hbox hb; obtain ⟨gc0, gc1, gc2, gc3, gc4⟩ := F.out.cells)
    | (go_at_call 25; refine (TB.num F.out s S0.out S1.out HP.out).mono ?_; rintro e W2 ⟨rfl, hF_⟩; clear F gc0 gc1 gc2 gc3 gc4; have F := Aside0.mk hF_; clear hF_; obtain ⟨gc0, gc1, gc2, gc3, gc4⟩ := F.out.cells)
    | (go_at_call 24; refine (TB.text F.out (Lib.itoa s) (by have := itoa_len s S0.out S1.out; omega) (by have := HL.out; (try simp only [List.length_append, List.length_cons, List.length_nil]); (try have := itoa_len s S0.out S1.out); omega)).mono ?_; rintro e W2 ⟨rfl, hF_⟩; clear F gc0 gc1 gc2 gc3 gc4; have F := Aside0.mk hF_; clear hF_; obtain ⟨gc0, gc1, gc2, gc3, gc4⟩ := F.out.cells))
  go_end0
  exact ⟨rfl, TB.done F.out (by simp)⟩
theorem tail (want k wd h u s : Int) (s0 : -65536 ≤ s) (s1 : s ≤ 65536) (w00 w : World) (b : Nat) (l : List UInt8) (hl : l.length ≤ 100) (hI : Lib.IsBuilder 51 5 b b (Lib.byteCells l) w) (le : w00.heap.size ≤ b) (hb0 : Below w00.heap.size w00 w) (hp : Pow w00) :
    Calls Tryd.prog 26 #[.pointer (some ⟨b, 0, none⟩), .agg #[.int .u8 k, .int .i64 wd, .int .i64 h, .int .u8 u, .int .i64 s], .int .u8 want] w fun e w' => e = .returned (.tuple #[]) ∧ After w00 w b (l ++ tl k u s want) w' := by
  unfold tl
  by_cases c1 : u = want
  · rw [if_pos c1]
    subst c1
    by_cases c3 : k = 3
    · rw [if_pos c3]
      subst c3
      by_cases c4 : s = 0
      · subst c4
        have := t_3z u wd h w00 w b l hl hI le hb0 hp
        simpa using this
      · rw [if_neg c4]
        by_cases c5 : 0 < s
        · rw [if_pos c5]; exact t_3p u wd h s s0 s1 (bne_iff_ne.mpr c4) c5 w00 w b l hl hI le hb0 hp
        · rw [if_neg c5]; exact t_3n u wd h s s0 s1 (bne_iff_ne.mpr c4) c5 w00 w b l hl hI le hb0 hp
    · rw [if_neg c3]
      have c3b : (k == 3) = false := beq_eq_false_iff_ne.mpr c3
      by_cases c4 : s = 0
      · subst c4
        have := t_z u k wd h c3b w00 w b l hl hI le hb0 hp
        simpa using this
      · rw [if_neg c4]
        by_cases c5 : 0 < s
        · rw [if_pos c5]; exact t_p u k wd h s s0 s1 c3b (bne_iff_ne.mpr c4) c5 w00 w b l hl hI le hb0 hp
        · rw [if_neg c5]; exact t_n u k wd h s s0 s1 c3b (bne_iff_ne.mpr c4) c5 w00 w b l hl hI le hb0 hp
  · rw [if_neg c1, List.append_nil]
    exact t_no want k wd h u s s0 s1 (bne_iff_ne.mpr c1) w00 w b l hl hI le hb0 hp
end Go.Proofs.YtmcidodpnhkdfaaDoor.Tail
