/- topo.Print: whether a topology may be, and its text. -/
import Derived.Test.YtmcidodpnhkdfaaDoorTail
import Derived.Test.YtmcidodpnhkdfaaDoorCheckProg
namespace Go.Proofs.YtmcidodpnhkdfaaDoor.PrintWalk
open Go.RowKit Go.Proofs.YtmcidodpnhkdfaaDoorW.PrintWords Go.Proofs.YtmcidodpnhkdfaaDoor.Box Go.Proofs.YtmcidodpnhkdfaaDoor.Text Go.Proofs.YtmcidodpnhkdfaaDoor.PrintPlain Go.Proofs.YtmcidodpnhkdfaaDoor.Tail Go.Proofs.YtmcidodpnhkdfaaDoor.PT Go.Proofs.YtmcidodpnhkdfaaDoor.CheckPlain
set_option linter.unusedVariables false
set_option linter.unusedSimpArgs false

theorem TB.after {w00 w0 w1 W W' : World} {t b : Nat} {v0 v1 v2 v3 v4 : Value} {l m : List UInt8} (h : TB w00 w0 t b v0 v1 v2 v3 v4 l W) (hA : After w1 W b m W') : TB w00 w0 t b v0 v1 v2 v3 v4 m W' :=
  ⟨hA.2.2 t _ h.bx (by simp only [ne_eq, Option.some.injEq]; exact h.ne) (by intro c fz e; injection e with _ e; exact absurd e (by decide)), hA.1, h.le, h.ne, h.be.trans (mono hA.2.1 h.le), h.bb.trans hA.2.1, h.ok.trans hA.2.2⟩
theorem tl_len (k u s want : Int) (h0 : -65536 ≤ s) (h1 : s ≤ 65536) : (tl k u s want).length ≤ 8 := by
  have := itoa_len s h0 h1
  unfold tl
  split
  · simp only [List.length_append]
    split <;> split <;> split <;> simp <;> omega
  · simp
theorem five {W : World} {t ty : Nat} {v0 v1 v2 v3 v4 : Value} (h : W.heap[t]? = some (.cells #[v0, v1, v2, v3, v4] ty (0, 0))) : W.cell? ⟨t, 0, none⟩ = some v0 ∧ W.cell? ⟨t, 1, none⟩ = some v1 ∧ W.cell? ⟨t, 2, none⟩ = some v2 ∧ W.cell? ⟨t, 3, none⟩ = some v3 ∧ W.cell? ⟨t, 4, none⟩ = some v4 :=
  ⟨(blk_cell h 0).trans rfl, (blk_cell h 1).trans rfl, (blk_cell h 2).trans rfl, (blk_cell h 3).trans rfl, (blk_cell h 4).trans rfl⟩
set_option maxHeartbeats 4000000 in
set_option maxRecDepth 100000 in
theorem p_bad (u s : Int) (k wd h : Int) (c : Int) (hc : (c != 0) = true) (w : World) (hp : Pow w) (ck : ∀ W : World, Calls Tryd.prog 12 #[.agg #[.int .u8 k, .int .i64 wd, .int .i64 h, .int .u8 u, .int .i64 s]] W fun e w' => e = .returned (.int .i64 c) ∧ Below W.heap.size W w') :
    Calls Tryd.prog 10 #[.agg #[.int .u8 k, .int .i64 wd, .int .i64 h, .int .u8 u, .int .i64 s]] w fun e w' => e = .returned (.tuple #[.string ByteArray.empty, .int .i64 c]) ∧ Below w.heap.size w w' := by
  have CK := Aside0.mk ck; have HP := Aside0.mk hp; have HB := Aside0.mk (Below.refl w.heap.size w)
  have hu := Tryd.underlying23
  clear ck hp
  go_enter Tryd.func10, Tryd.ntmps10
  go_wp2_with (first
    | ((with_reducible refine gate_dst (N := 1) rfl ?_); refine box_event ?hg (N := 1) ?hd (cs := #[.int .u8 k, .int .i64 wd, .int .i64 h, .int .u8 u, .int .i64 s]) (t := 23) ?hr ?_; (case hd => rfl); (case hg => rfl); (case hr => first | (go_simp; done) | (go_simp; rfl)); intro t hg W9 hbox hb; have BX := Aside0.mk hbox; have n_ := below_step HB.out hb; clear HB; have HB := Aside0.mk n_; obtain ⟨gc0, gc1, gc2, gc3, gc4⟩ := five hbox; clear n_ hg hbox hb)
    | (go_at_call 12; (with_reducible refine (CK.out _).mono ?_); rintro e W9 ⟨rfl, hb⟩; have n_ := below_step HB.out hb; have m_ := blk_below BX.out hb; clear HB BX gc0 gc1 gc2 gc3 gc4; have HB := Aside0.mk n_; have BX := Aside0.mk m_; obtain ⟨gc0, gc1, gc2, gc3, gc4⟩ := five m_; clear n_ m_ hb))
  go_ret2
  exact ⟨rfl, by repeat (first | exact HB.out | apply pw_below_drewN)⟩
set_option maxHeartbeats 4000000 in
set_option maxRecDepth 100000 in
theorem p_0_1 (u s : Int) (w0_ : -65536 ≤ (0 : Int)) (w1_ : (0 : Int) ≤ 65536) (h0_ : -65536 ≤ (0 : Int)) (h1_ : (0 : Int) ≤ 65536) (s0_ : -65536 ≤ s) (s1_ : s ≤ 65536) (w : World) (hp : Pow w) (ck : ∀ W : World, Calls Tryd.prog 12 #[.agg #[.int .u8 1, .int .i64 0, .int .i64 0, .int .u8 u, .int .i64 s]] W fun e w' => e = .returned (.int .i64 0) ∧ Below W.heap.size W w') :
    Calls Tryd.prog 10 #[.agg #[.int .u8 1, .int .i64 0, .int .i64 0, .int .u8 u, .int .i64 s]] w fun e w' => e = .returned (.tuple #[.string ⟨([] ++ [80] : List UInt8).toArray⟩, .int .i64 0]) ∧ Below w.heap.size w w' := by
  have W0 := Aside0.mk w0_; have W1 := Aside0.mk w1_; have H0 := Aside0.mk h0_; have H1 := Aside0.mk h1_; have S0 := Aside0.mk s0_; have S1 := Aside0.mk s1_; clear w0_ w1_ h0_ h1_ s0_ s1_
  have CK := Aside0.mk ck; have HP := Aside0.mk hp; have HB := Aside0.mk (Below.refl w.heap.size w)
  have hu := Tryd.underlying23
  clear ck hp
  go_enter Tryd.func10, Tryd.ntmps10
  go_wp2_with (first
    | ((with_reducible refine gate_dst (N := 1) rfl ?_); refine box_event ?hg (N := 1) ?hd (cs := #[.int .u8 1, .int .i64 0, .int .i64 0, .int .u8 u, .int .i64 s]) (t := 23) ?hr ?_; (case hd => rfl); (case hg => rfl); (case hr => first | (go_simp; done) | (go_simp; rfl)); intro t hg W9 hbox hb; have BX := Aside0.mk hbox; have n_ := below_step HB.out hb; clear HB; have HB := Aside0.mk n_; obtain ⟨gc0, gc1, gc2, gc3, gc4⟩ := five hbox; clear n_ hg hbox hb)
    | (go_at_call 12; (with_reducible refine (CK.out _).mono ?_); rintro e W9 ⟨rfl, hb⟩; have n_ := below_step HB.out hb; have m_ := blk_below BX.out hb; clear HB BX gc0 gc1 gc2 gc3 gc4; have HB := Aside0.mk n_; have BX := Aside0.mk m_; obtain ⟨gc0, gc1, gc2, gc3, gc4⟩ := five m_; clear n_ m_ hb)
    | ((with_reducible refine gate_dst (N := 5) rfl ?_); refine box_event ?hg5 (N := 5) ?hd5 (cs := #[.pointer none, .slice none 0 0]) (t := 51) ?hr5 ?_; (case hd5 => rfl); (case hg5 => rfl); (case hr5 => first | (go_simp; done) | (go_simp; rfl)); intro b hg W9 hbox hb; have hF_ := TB.startP BX.out HB.out hg hbox hb; clear BX HB gc0 gc1 gc2 gc3 gc4; have F := Aside0.mk hF_; clear hF_ hg hbox hb; obtain ⟨gc0, gc1, gc2, gc3, gc4⟩ := F.out.cells)
    | (go_at_call 22; have h_ := TB.byte F.out 80 ((((ByteArray.mk #[80, 84, 75, 67, 83])[0]'(by decide)).toNat : Nat) : Int) (by first | rfl | decide) (by have l1 := itoa_len 0 W0.out W1.out; have l2 := itoa_len 0 H0.out H1.out; have l3 := tl_len 1 u s 1 S0.out S1.out; first | (simp only [List.length_append, List.length_cons, List.length_nil]; omega) | (simp only [List.length_append, List.length_cons, List.length_nil]; done) | omega); with_reducible refine h_.mono ?_; clear h_; rintro e W9 ⟨rfl, hF_⟩; clear F gc0 gc1 gc2 gc3 gc4; have F := Aside0.mk hF_; clear hF_; obtain ⟨gc0, gc1, gc2, gc3, gc4⟩ := F.out.cells)
    | (go_at_call 23; have h_ := Tryd.Builder_String_any _ _ _ _ F.out.bld (Nat.le_of_lt F.out.blt); with_reducible refine h_.mono ?_; clear h_; rintro e W9 ⟨rfl, hb⟩; have HE := Aside0.mk (F.out.be.trans (mono hb F.out.le)); clear F gc0 gc1 gc2 gc3 gc4 hb))
  go_ret2
  exact ⟨rfl, by repeat (first | exact HE.out | apply pw_below_drewN)⟩
set_option maxHeartbeats 4000000 in
set_option maxRecDepth 100000 in
theorem p_0_2 (u s : Int) (w0_ : -65536 ≤ (0 : Int)) (w1_ : (0 : Int) ≤ 65536) (h0_ : -65536 ≤ (0 : Int)) (h1_ : (0 : Int) ≤ 65536) (s0_ : -65536 ≤ s) (s1_ : s ≤ 65536) (w : World) (hp : Pow w) (ck : ∀ W : World, Calls Tryd.prog 12 #[.agg #[.int .u8 2, .int .i64 0, .int .i64 0, .int .u8 u, .int .i64 s]] W fun e w' => e = .returned (.int .i64 0) ∧ Below W.heap.size W w') :
    Calls Tryd.prog 10 #[.agg #[.int .u8 2, .int .i64 0, .int .i64 0, .int .u8 u, .int .i64 s]] w fun e w' => e = .returned (.tuple #[.string ⟨([] ++ [84] : List UInt8).toArray⟩, .int .i64 0]) ∧ Below w.heap.size w w' := by
  have W0 := Aside0.mk w0_; have W1 := Aside0.mk w1_; have H0 := Aside0.mk h0_; have H1 := Aside0.mk h1_; have S0 := Aside0.mk s0_; have S1 := Aside0.mk s1_; clear w0_ w1_ h0_ h1_ s0_ s1_
  have CK := Aside0.mk ck; have HP := Aside0.mk hp; have HB := Aside0.mk (Below.refl w.heap.size w)
  have hu := Tryd.underlying23
  clear ck hp
  go_enter Tryd.func10, Tryd.ntmps10
  go_wp2_with (first
    | ((with_reducible refine gate_dst (N := 1) rfl ?_); refine box_event ?hg (N := 1) ?hd (cs := #[.int .u8 2, .int .i64 0, .int .i64 0, .int .u8 u, .int .i64 s]) (t := 23) ?hr ?_; (case hd => rfl); (case hg => rfl); (case hr => first | (go_simp; done) | (go_simp; rfl)); intro t hg W9 hbox hb; have BX := Aside0.mk hbox; have n_ := below_step HB.out hb; clear HB; have HB := Aside0.mk n_; obtain ⟨gc0, gc1, gc2, gc3, gc4⟩ := five hbox; clear n_ hg hbox hb)
    | (go_at_call 12; (with_reducible refine (CK.out _).mono ?_); rintro e W9 ⟨rfl, hb⟩; have n_ := below_step HB.out hb; have m_ := blk_below BX.out hb; clear HB BX gc0 gc1 gc2 gc3 gc4; have HB := Aside0.mk n_; have BX := Aside0.mk m_; obtain ⟨gc0, gc1, gc2, gc3, gc4⟩ := five m_; clear n_ m_ hb)
    | ((with_reducible refine gate_dst (N := 5) rfl ?_); refine box_event ?hg5 (N := 5) ?hd5 (cs := #[.pointer none, .slice none 0 0]) (t := 51) ?hr5 ?_; (case hd5 => rfl); (case hg5 => rfl); (case hr5 => first | (go_simp; done) | (go_simp; rfl)); intro b hg W9 hbox hb; have hF_ := TB.startP BX.out HB.out hg hbox hb; clear BX HB gc0 gc1 gc2 gc3 gc4; have F := Aside0.mk hF_; clear hF_ hg hbox hb; obtain ⟨gc0, gc1, gc2, gc3, gc4⟩ := F.out.cells)
    | (go_at_call 22; have h_ := TB.byte F.out 84 ((((ByteArray.mk #[80, 84, 75, 67, 83])[1]'(by decide)).toNat : Nat) : Int) (by first | rfl | decide) (by have l1 := itoa_len 0 W0.out W1.out; have l2 := itoa_len 0 H0.out H1.out; have l3 := tl_len 2 u s 1 S0.out S1.out; first | (simp only [List.length_append, List.length_cons, List.length_nil]; omega) | (simp only [List.length_append, List.length_cons, List.length_nil]; done) | omega); with_reducible refine h_.mono ?_; clear h_; rintro e W9 ⟨rfl, hF_⟩; clear F gc0 gc1 gc2 gc3 gc4; have F := Aside0.mk hF_; clear hF_; obtain ⟨gc0, gc1, gc2, gc3, gc4⟩ := F.out.cells)
    | (go_at_call 23; have h_ := Tryd.Builder_String_any _ _ _ _ F.out.bld (Nat.le_of_lt F.out.blt); with_reducible refine h_.mono ?_; clear h_; rintro e W9 ⟨rfl, hb⟩; have HE := Aside0.mk (F.out.be.trans (mono hb F.out.le)); clear F gc0 gc1 gc2 gc3 gc4 hb))
  go_ret2
  exact ⟨rfl, by repeat (first | exact HE.out | apply pw_below_drewN)⟩
set_option maxHeartbeats 4000000 in
set_option maxRecDepth 100000 in
theorem p_5 (u s : Int) (wd h : Int) (w0_ : -65536 ≤ (wd : Int)) (w1_ : (wd : Int) ≤ 65536) (h0_ : -65536 ≤ (h : Int)) (h1_ : (h : Int) ≤ 65536) (s0_ : -65536 ≤ s) (s1_ : s ≤ 65536) (hw : (wd == 0) = false) (w : World) (hp : Pow w) (ck : ∀ W : World, Calls Tryd.prog 12 #[.agg #[.int .u8 5, .int .i64 wd, .int .i64 h, .int .u8 u, .int .i64 s]] W fun e w' => e = .returned (.int .i64 0) ∧ Below W.heap.size W w') :
    Calls Tryd.prog 10 #[.agg #[.int .u8 5, .int .i64 wd, .int .i64 h, .int .u8 u, .int .i64 s]] w fun e w' => e = .returned (.tuple #[.string ⟨([] ++ [83] ++ Lib.itoa wd : List UInt8).toArray⟩, .int .i64 0]) ∧ Below w.heap.size w w' := by
  have W0 := Aside0.mk w0_; have W1 := Aside0.mk w1_; have H0 := Aside0.mk h0_; have H1 := Aside0.mk h1_; have S0 := Aside0.mk s0_; have S1 := Aside0.mk s1_; clear w0_ w1_ h0_ h1_ s0_ s1_
  have CK := Aside0.mk ck; have HP := Aside0.mk hp; have HB := Aside0.mk (Below.refl w.heap.size w)
  have hu := Tryd.underlying23
  clear ck hp
  go_enter Tryd.func10, Tryd.ntmps10
  go_wp2_with (first
    | ((with_reducible refine gate_dst (N := 1) rfl ?_); refine box_event ?hg (N := 1) ?hd (cs := #[.int .u8 5, .int .i64 wd, .int .i64 h, .int .u8 u, .int .i64 s]) (t := 23) ?hr ?_; (case hd => rfl); (case hg => rfl); (case hr => first | (go_simp; done) | (go_simp; rfl)); intro t hg W9 hbox hb; have BX := Aside0.mk hbox; have n_ := below_step HB.out hb; clear HB; have HB := Aside0.mk n_; obtain ⟨gc0, gc1, gc2, gc3, gc4⟩ := five hbox; clear n_ hg hbox hb)
    | (go_at_call 12; (with_reducible refine (CK.out _).mono ?_); rintro e W9 ⟨rfl, hb⟩; have n_ := below_step HB.out hb; have m_ := blk_below BX.out hb; clear HB BX gc0 gc1 gc2 gc3 gc4; have HB := Aside0.mk n_; have BX := Aside0.mk m_; obtain ⟨gc0, gc1, gc2, gc3, gc4⟩ := five m_; clear n_ m_ hb)
    | ((with_reducible refine gate_dst (N := 5) rfl ?_); refine box_event ?hg5 (N := 5) ?hd5 (cs := #[.pointer none, .slice none 0 0]) (t := 51) ?hr5 ?_; (case hd5 => rfl); (case hg5 => rfl); (case hr5 => first | (go_simp; done) | (go_simp; rfl)); intro b hg W9 hbox hb; have hF_ := TB.startP BX.out HB.out hg hbox hb; clear BX HB gc0 gc1 gc2 gc3 gc4; have F := Aside0.mk hF_; clear hF_ hg hbox hb; obtain ⟨gc0, gc1, gc2, gc3, gc4⟩ := F.out.cells)
    | (go_at_call 22; have h_ := TB.byte F.out 83 ((((ByteArray.mk #[80, 84, 75, 67, 83])[4]'(by decide)).toNat : Nat) : Int) (by first | rfl | decide) (by have l1 := itoa_len wd W0.out W1.out; have l2 := itoa_len h H0.out H1.out; have l3 := tl_len 5 u s 1 S0.out S1.out; first | (simp only [List.length_append, List.length_cons, List.length_nil]; omega) | (simp only [List.length_append, List.length_cons, List.length_nil]; done) | omega); with_reducible refine h_.mono ?_; clear h_; rintro e W9 ⟨rfl, hF_⟩; clear F gc0 gc1 gc2 gc3 gc4; have F := Aside0.mk hF_; clear hF_; obtain ⟨gc0, gc1, gc2, gc3, gc4⟩ := F.out.cells)
    | (go_at_call 25; have h_ := TB.num F.out wd W0.out W1.out HP.out; with_reducible refine h_.mono ?_; clear h_; rintro e W9 ⟨rfl, hF_⟩; clear F gc0 gc1 gc2 gc3 gc4; have F := Aside0.mk hF_; clear hF_; obtain ⟨gc0, gc1, gc2, gc3, gc4⟩ := F.out.cells)
    | (go_at_call 24; have h_ := TB.text F.out (Lib.itoa wd) (by have := itoa_len wd W0.out W1.out; omega) (by have l1 := itoa_len wd W0.out W1.out; have l2 := itoa_len h H0.out H1.out; have l3 := tl_len 5 u s 1 S0.out S1.out; first | (simp only [List.length_append, List.length_cons, List.length_nil]; omega) | (simp only [List.length_append, List.length_cons, List.length_nil]; done) | omega); with_reducible refine h_.mono ?_; clear h_; rintro e W9 ⟨rfl, hF_⟩; clear F gc0 gc1 gc2 gc3 gc4; have F := Aside0.mk hF_; clear hF_; obtain ⟨gc0, gc1, gc2, gc3, gc4⟩ := F.out.cells)
    | (go_at_call 23; have h_ := Tryd.Builder_String_any _ _ _ _ F.out.bld (Nat.le_of_lt F.out.blt); with_reducible refine h_.mono ?_; clear h_; rintro e W9 ⟨rfl, hb⟩; have HE := Aside0.mk (F.out.be.trans (mono hb F.out.le)); clear F gc0 gc1 gc2 gc3 gc4 hb))
  go_ret2
  exact ⟨rfl, by repeat (first | exact HE.out | apply pw_below_drewN)⟩
set_option maxHeartbeats 4000000 in
set_option maxRecDepth 100000 in
theorem p_1_0 (u s : Int) (h : Int) (w0_ : -65536 ≤ (0 : Int)) (w1_ : (0 : Int) ≤ 65536) (h0_ : -65536 ≤ (h : Int)) (h1_ : (h : Int) ≤ 65536) (s0_ : -65536 ≤ s) (s1_ : s ≤ 65536) (hh : (h == 0) = false) (w : World) (hp : Pow w) (ck : ∀ W : World, Calls Tryd.prog 12 #[.agg #[.int .u8 1, .int .i64 0, .int .i64 h, .int .u8 u, .int .i64 s]] W fun e w' => e = .returned (.int .i64 0) ∧ Below W.heap.size W w') :
    Calls Tryd.prog 10 #[.agg #[.int .u8 1, .int .i64 0, .int .i64 h, .int .u8 u, .int .i64 s]] w fun e w' => e = .returned (.tuple #[.string ⟨(80 :: (Lib.itoa 0 ++ (tl 1 u s 1 ++ 44 :: (Lib.itoa h ++ tl 1 u s 2))) : List UInt8).toArray⟩, .int .i64 0]) ∧ Below w.heap.size w w' := by
  have W0 := Aside0.mk w0_; have W1 := Aside0.mk w1_; have H0 := Aside0.mk h0_; have H1 := Aside0.mk h1_; have S0 := Aside0.mk s0_; have S1 := Aside0.mk s1_; clear w0_ w1_ h0_ h1_ s0_ s1_
  have CK := Aside0.mk ck; have HP := Aside0.mk hp; have HB := Aside0.mk (Below.refl w.heap.size w)
  have hu := Tryd.underlying23
  clear ck hp
  go_enter Tryd.func10, Tryd.ntmps10
  go_wp2_with (first
    | ((with_reducible refine gate_dst (N := 1) rfl ?_); refine box_event ?hg (N := 1) ?hd (cs := #[.int .u8 1, .int .i64 0, .int .i64 h, .int .u8 u, .int .i64 s]) (t := 23) ?hr ?_; (case hd => rfl); (case hg => rfl); (case hr => first | (go_simp; done) | (go_simp; rfl)); intro t hg W9 hbox hb; have BX := Aside0.mk hbox; have n_ := below_step HB.out hb; clear HB; have HB := Aside0.mk n_; obtain ⟨gc0, gc1, gc2, gc3, gc4⟩ := five hbox; clear n_ hg hbox hb)
    | (go_at_call 12; (with_reducible refine (CK.out _).mono ?_); rintro e W9 ⟨rfl, hb⟩; have n_ := below_step HB.out hb; have m_ := blk_below BX.out hb; clear HB BX gc0 gc1 gc2 gc3 gc4; have HB := Aside0.mk n_; have BX := Aside0.mk m_; obtain ⟨gc0, gc1, gc2, gc3, gc4⟩ := five m_; clear n_ m_ hb)
    | ((with_reducible refine gate_dst (N := 5) rfl ?_); refine box_event ?hg5 (N := 5) ?hd5 (cs := #[.pointer none, .slice none 0 0]) (t := 51) ?hr5 ?_; (case hd5 => rfl); (case hg5 => rfl); (case hr5 => first | (go_simp; done) | (go_simp; rfl)); intro b hg W9 hbox hb; have hF_ := TB.startP BX.out HB.out hg hbox hb; clear BX HB gc0 gc1 gc2 gc3 gc4; have F := Aside0.mk hF_; clear hF_ hg hbox hb; obtain ⟨gc0, gc1, gc2, gc3, gc4⟩ := F.out.cells)
    | (go_at_call 22; have h_ := TB.byte F.out 80 ((((ByteArray.mk #[80, 84, 75, 67, 83])[0]'(by decide)).toNat : Nat) : Int) (by first | rfl | decide) (by have l1 := itoa_len 0 W0.out W1.out; have l2 := itoa_len h H0.out H1.out; have l3 := tl_len 1 u s 1 S0.out S1.out; first | (simp only [List.length_append, List.length_cons, List.length_nil]; omega) | (simp only [List.length_append, List.length_cons, List.length_nil]; done) | omega); with_reducible refine h_.mono ?_; clear h_; rintro e W9 ⟨rfl, hF_⟩; clear F gc0 gc1 gc2 gc3 gc4; have F := Aside0.mk hF_; clear hF_; obtain ⟨gc0, gc1, gc2, gc3, gc4⟩ := F.out.cells)
    | (go_at_call 22; have h_ := TB.byte F.out 44 44 rfl (by have l1 := itoa_len 0 W0.out W1.out; have l2 := itoa_len h H0.out H1.out; have l3 := tl_len 1 u s 1 S0.out S1.out; first | (simp only [List.length_append, List.length_cons, List.length_nil]; omega) | (simp only [List.length_append, List.length_cons, List.length_nil]; done) | omega); with_reducible refine h_.mono ?_; clear h_; rintro e W9 ⟨rfl, hF_⟩; clear F gc0 gc1 gc2 gc3 gc4; have F := Aside0.mk hF_; clear hF_; obtain ⟨gc0, gc1, gc2, gc3, gc4⟩ := F.out.cells)
    | (go_at_call 25; have h_ := TB.num F.out 0 W0.out W1.out HP.out; with_reducible refine h_.mono ?_; clear h_; rintro e W9 ⟨rfl, hF_⟩; clear F gc0 gc1 gc2 gc3 gc4; have F := Aside0.mk hF_; clear hF_; obtain ⟨gc0, gc1, gc2, gc3, gc4⟩ := F.out.cells)
    | (go_at_call 25; have h_ := TB.num F.out h H0.out H1.out HP.out; with_reducible refine h_.mono ?_; clear h_; rintro e W9 ⟨rfl, hF_⟩; clear F gc0 gc1 gc2 gc3 gc4; have F := Aside0.mk hF_; clear hF_; obtain ⟨gc0, gc1, gc2, gc3, gc4⟩ := F.out.cells)
    | (go_at_call 24; have h_ := TB.text F.out (Lib.itoa 0) (by have := itoa_len 0 W0.out W1.out; omega) (by have l1 := itoa_len 0 W0.out W1.out; have l2 := itoa_len h H0.out H1.out; have l3 := tl_len 1 u s 1 S0.out S1.out; first | (simp only [List.length_append, List.length_cons, List.length_nil]; omega) | (simp only [List.length_append, List.length_cons, List.length_nil]; done) | omega); with_reducible refine h_.mono ?_; clear h_; rintro e W9 ⟨rfl, hF_⟩; clear F gc0 gc1 gc2 gc3 gc4; have F := Aside0.mk hF_; clear hF_; obtain ⟨gc0, gc1, gc2, gc3, gc4⟩ := F.out.cells)
    | (go_at_call 24; have h_ := TB.text F.out (Lib.itoa h) (by have := itoa_len h H0.out H1.out; omega) (by have l1 := itoa_len 0 W0.out W1.out; have l2 := itoa_len h H0.out H1.out; have l3 := tl_len 1 u s 1 S0.out S1.out; first | (simp only [List.length_append, List.length_cons, List.length_nil]; omega) | (simp only [List.length_append, List.length_cons, List.length_nil]; done) | omega); with_reducible refine h_.mono ?_; clear h_; rintro e W9 ⟨rfl, hF_⟩; clear F gc0 gc1 gc2 gc3 gc4; have F := Aside0.mk hF_; clear hF_; obtain ⟨gc0, gc1, gc2, gc3, gc4⟩ := F.out.cells)
    | (go_at_call 26; have h_ := tail 1 1 0 h u s S0.out S1.out _ _ _ _ (by have l1 := itoa_len 0 W0.out W1.out; have l2 := itoa_len h H0.out H1.out; have l3 := tl_len 1 u s 1 S0.out S1.out; first | (simp only [List.length_append, List.length_cons, List.length_nil]; omega) | (simp only [List.length_append, List.length_cons, List.length_nil]; done) | omega) F.out.bld F.out.le F.out.be HP.out; with_reducible refine h_.mono ?_; clear h_; rintro e W9 ⟨rfl, hA⟩; have hF_ := TB.after F.out hA; clear hA; clear F gc0 gc1 gc2 gc3 gc4; have F := Aside0.mk hF_; clear hF_; obtain ⟨gc0, gc1, gc2, gc3, gc4⟩ := F.out.cells)
    | (go_at_call 26; have h_ := tail 2 1 0 h u s S0.out S1.out _ _ _ _ (by have l1 := itoa_len 0 W0.out W1.out; have l2 := itoa_len h H0.out H1.out; have l3 := tl_len 1 u s 1 S0.out S1.out; first | (simp only [List.length_append, List.length_cons, List.length_nil]; omega) | (simp only [List.length_append, List.length_cons, List.length_nil]; done) | omega) F.out.bld F.out.le F.out.be HP.out; with_reducible refine h_.mono ?_; clear h_; rintro e W9 ⟨rfl, hA⟩; have hF_ := TB.after F.out hA; clear hA; clear F gc0 gc1 gc2 gc3 gc4; have F := Aside0.mk hF_; clear hF_; obtain ⟨gc0, gc1, gc2, gc3, gc4⟩ := F.out.cells)
    | (go_at_call 23; have h_ := Tryd.Builder_String_any _ _ _ _ F.out.bld (Nat.le_of_lt F.out.blt); with_reducible refine h_.mono ?_; clear h_; rintro e W9 ⟨rfl, hb⟩; have HE := Aside0.mk (F.out.be.trans (mono hb F.out.le)); clear F gc0 gc1 gc2 gc3 gc4 hb))
  go_ret2
  exact ⟨rfl, by repeat (first | exact HE.out | apply pw_below_drewN)⟩
set_option maxHeartbeats 4000000 in
set_option maxRecDepth 100000 in
theorem p_1_1 (u s : Int) (wd h : Int) (w0_ : -65536 ≤ (wd : Int)) (w1_ : (wd : Int) ≤ 65536) (h0_ : -65536 ≤ (h : Int)) (h1_ : (h : Int) ≤ 65536) (s0_ : -65536 ≤ s) (s1_ : s ≤ 65536) (hw : (wd == 0) = false) (w : World) (hp : Pow w) (ck : ∀ W : World, Calls Tryd.prog 12 #[.agg #[.int .u8 1, .int .i64 wd, .int .i64 h, .int .u8 u, .int .i64 s]] W fun e w' => e = .returned (.int .i64 0) ∧ Below W.heap.size W w') :
    Calls Tryd.prog 10 #[.agg #[.int .u8 1, .int .i64 wd, .int .i64 h, .int .u8 u, .int .i64 s]] w fun e w' => e = .returned (.tuple #[.string ⟨(80 :: (Lib.itoa wd ++ (tl 1 u s 1 ++ 44 :: (Lib.itoa h ++ tl 1 u s 2))) : List UInt8).toArray⟩, .int .i64 0]) ∧ Below w.heap.size w w' := by
  have W0 := Aside0.mk w0_; have W1 := Aside0.mk w1_; have H0 := Aside0.mk h0_; have H1 := Aside0.mk h1_; have S0 := Aside0.mk s0_; have S1 := Aside0.mk s1_; clear w0_ w1_ h0_ h1_ s0_ s1_
  have CK := Aside0.mk ck; have HP := Aside0.mk hp; have HB := Aside0.mk (Below.refl w.heap.size w)
  have hu := Tryd.underlying23
  clear ck hp
  go_enter Tryd.func10, Tryd.ntmps10
  go_wp2_with (first
    | ((with_reducible refine gate_dst (N := 1) rfl ?_); refine box_event ?hg (N := 1) ?hd (cs := #[.int .u8 1, .int .i64 wd, .int .i64 h, .int .u8 u, .int .i64 s]) (t := 23) ?hr ?_; (case hd => rfl); (case hg => rfl); (case hr => first | (go_simp; done) | (go_simp; rfl)); intro t hg W9 hbox hb; have BX := Aside0.mk hbox; have n_ := below_step HB.out hb; clear HB; have HB := Aside0.mk n_; obtain ⟨gc0, gc1, gc2, gc3, gc4⟩ := five hbox; clear n_ hg hbox hb)
    | (go_at_call 12; (with_reducible refine (CK.out _).mono ?_); rintro e W9 ⟨rfl, hb⟩; have n_ := below_step HB.out hb; have m_ := blk_below BX.out hb; clear HB BX gc0 gc1 gc2 gc3 gc4; have HB := Aside0.mk n_; have BX := Aside0.mk m_; obtain ⟨gc0, gc1, gc2, gc3, gc4⟩ := five m_; clear n_ m_ hb)
    | ((with_reducible refine gate_dst (N := 5) rfl ?_); refine box_event ?hg5 (N := 5) ?hd5 (cs := #[.pointer none, .slice none 0 0]) (t := 51) ?hr5 ?_; (case hd5 => rfl); (case hg5 => rfl); (case hr5 => first | (go_simp; done) | (go_simp; rfl)); intro b hg W9 hbox hb; have hF_ := TB.startP BX.out HB.out hg hbox hb; clear BX HB gc0 gc1 gc2 gc3 gc4; have F := Aside0.mk hF_; clear hF_ hg hbox hb; obtain ⟨gc0, gc1, gc2, gc3, gc4⟩ := F.out.cells)
    | (go_at_call 22; have h_ := TB.byte F.out 80 ((((ByteArray.mk #[80, 84, 75, 67, 83])[0]'(by decide)).toNat : Nat) : Int) (by first | rfl | decide) (by have l1 := itoa_len wd W0.out W1.out; have l2 := itoa_len h H0.out H1.out; have l3 := tl_len 1 u s 1 S0.out S1.out; first | (simp only [List.length_append, List.length_cons, List.length_nil]; omega) | (simp only [List.length_append, List.length_cons, List.length_nil]; done) | omega); with_reducible refine h_.mono ?_; clear h_; rintro e W9 ⟨rfl, hF_⟩; clear F gc0 gc1 gc2 gc3 gc4; have F := Aside0.mk hF_; clear hF_; obtain ⟨gc0, gc1, gc2, gc3, gc4⟩ := F.out.cells)
    | (go_at_call 22; have h_ := TB.byte F.out 44 44 rfl (by have l1 := itoa_len wd W0.out W1.out; have l2 := itoa_len h H0.out H1.out; have l3 := tl_len 1 u s 1 S0.out S1.out; first | (simp only [List.length_append, List.length_cons, List.length_nil]; omega) | (simp only [List.length_append, List.length_cons, List.length_nil]; done) | omega); with_reducible refine h_.mono ?_; clear h_; rintro e W9 ⟨rfl, hF_⟩; clear F gc0 gc1 gc2 gc3 gc4; have F := Aside0.mk hF_; clear hF_; obtain ⟨gc0, gc1, gc2, gc3, gc4⟩ := F.out.cells)
    | (go_at_call 25; have h_ := TB.num F.out wd W0.out W1.out HP.out; with_reducible refine h_.mono ?_; clear h_; rintro e W9 ⟨rfl, hF_⟩; clear F gc0 gc1 gc2 gc3 gc4; have F := Aside0.mk hF_; clear hF_; obtain ⟨gc0, gc1, gc2, gc3, gc4⟩ := F.out.cells)
    | (go_at_call 25; have h_ := TB.num F.out h H0.out H1.out HP.out; with_reducible refine h_.mono ?_; clear h_; rintro e W9 ⟨rfl, hF_⟩; clear F gc0 gc1 gc2 gc3 gc4; have F := Aside0.mk hF_; clear hF_; obtain ⟨gc0, gc1, gc2, gc3, gc4⟩ := F.out.cells)
    | (go_at_call 24; have h_ := TB.text F.out (Lib.itoa wd) (by have := itoa_len wd W0.out W1.out; omega) (by have l1 := itoa_len wd W0.out W1.out; have l2 := itoa_len h H0.out H1.out; have l3 := tl_len 1 u s 1 S0.out S1.out; first | (simp only [List.length_append, List.length_cons, List.length_nil]; omega) | (simp only [List.length_append, List.length_cons, List.length_nil]; done) | omega); with_reducible refine h_.mono ?_; clear h_; rintro e W9 ⟨rfl, hF_⟩; clear F gc0 gc1 gc2 gc3 gc4; have F := Aside0.mk hF_; clear hF_; obtain ⟨gc0, gc1, gc2, gc3, gc4⟩ := F.out.cells)
    | (go_at_call 24; have h_ := TB.text F.out (Lib.itoa h) (by have := itoa_len h H0.out H1.out; omega) (by have l1 := itoa_len wd W0.out W1.out; have l2 := itoa_len h H0.out H1.out; have l3 := tl_len 1 u s 1 S0.out S1.out; first | (simp only [List.length_append, List.length_cons, List.length_nil]; omega) | (simp only [List.length_append, List.length_cons, List.length_nil]; done) | omega); with_reducible refine h_.mono ?_; clear h_; rintro e W9 ⟨rfl, hF_⟩; clear F gc0 gc1 gc2 gc3 gc4; have F := Aside0.mk hF_; clear hF_; obtain ⟨gc0, gc1, gc2, gc3, gc4⟩ := F.out.cells)
    | (go_at_call 26; have h_ := tail 1 1 wd h u s S0.out S1.out _ _ _ _ (by have l1 := itoa_len wd W0.out W1.out; have l2 := itoa_len h H0.out H1.out; have l3 := tl_len 1 u s 1 S0.out S1.out; first | (simp only [List.length_append, List.length_cons, List.length_nil]; omega) | (simp only [List.length_append, List.length_cons, List.length_nil]; done) | omega) F.out.bld F.out.le F.out.be HP.out; with_reducible refine h_.mono ?_; clear h_; rintro e W9 ⟨rfl, hA⟩; have hF_ := TB.after F.out hA; clear hA; clear F gc0 gc1 gc2 gc3 gc4; have F := Aside0.mk hF_; clear hF_; obtain ⟨gc0, gc1, gc2, gc3, gc4⟩ := F.out.cells)
    | (go_at_call 26; have h_ := tail 2 1 wd h u s S0.out S1.out _ _ _ _ (by have l1 := itoa_len wd W0.out W1.out; have l2 := itoa_len h H0.out H1.out; have l3 := tl_len 1 u s 1 S0.out S1.out; first | (simp only [List.length_append, List.length_cons, List.length_nil]; omega) | (simp only [List.length_append, List.length_cons, List.length_nil]; done) | omega) F.out.bld F.out.le F.out.be HP.out; with_reducible refine h_.mono ?_; clear h_; rintro e W9 ⟨rfl, hA⟩; have hF_ := TB.after F.out hA; clear hA; clear F gc0 gc1 gc2 gc3 gc4; have F := Aside0.mk hF_; clear hF_; obtain ⟨gc0, gc1, gc2, gc3, gc4⟩ := F.out.cells)
    | (go_at_call 23; have h_ := Tryd.Builder_String_any _ _ _ _ F.out.bld (Nat.le_of_lt F.out.blt); with_reducible refine h_.mono ?_; clear h_; rintro e W9 ⟨rfl, hb⟩; have HE := Aside0.mk (F.out.be.trans (mono hb F.out.le)); clear F gc0 gc1 gc2 gc3 gc4 hb))
  go_ret2
  exact ⟨rfl, by repeat (first | exact HE.out | apply pw_below_drewN)⟩
set_option maxHeartbeats 4000000 in
set_option maxRecDepth 100000 in
theorem p_2_0 (u s : Int) (h : Int) (w0_ : -65536 ≤ (0 : Int)) (w1_ : (0 : Int) ≤ 65536) (h0_ : -65536 ≤ (h : Int)) (h1_ : (h : Int) ≤ 65536) (s0_ : -65536 ≤ s) (s1_ : s ≤ 65536) (hh : (h == 0) = false) (w : World) (hp : Pow w) (ck : ∀ W : World, Calls Tryd.prog 12 #[.agg #[.int .u8 2, .int .i64 0, .int .i64 h, .int .u8 u, .int .i64 s]] W fun e w' => e = .returned (.int .i64 0) ∧ Below W.heap.size W w') :
    Calls Tryd.prog 10 #[.agg #[.int .u8 2, .int .i64 0, .int .i64 h, .int .u8 u, .int .i64 s]] w fun e w' => e = .returned (.tuple #[.string ⟨(84 :: (Lib.itoa 0 ++ (tl 2 u s 1 ++ 44 :: (Lib.itoa h ++ tl 2 u s 2))) : List UInt8).toArray⟩, .int .i64 0]) ∧ Below w.heap.size w w' := by
  have W0 := Aside0.mk w0_; have W1 := Aside0.mk w1_; have H0 := Aside0.mk h0_; have H1 := Aside0.mk h1_; have S0 := Aside0.mk s0_; have S1 := Aside0.mk s1_; clear w0_ w1_ h0_ h1_ s0_ s1_
  have CK := Aside0.mk ck; have HP := Aside0.mk hp; have HB := Aside0.mk (Below.refl w.heap.size w)
  have hu := Tryd.underlying23
  clear ck hp
  go_enter Tryd.func10, Tryd.ntmps10
  go_wp2_with (first
    | ((with_reducible refine gate_dst (N := 1) rfl ?_); refine box_event ?hg (N := 1) ?hd (cs := #[.int .u8 2, .int .i64 0, .int .i64 h, .int .u8 u, .int .i64 s]) (t := 23) ?hr ?_; (case hd => rfl); (case hg => rfl); (case hr => first | (go_simp; done) | (go_simp; rfl)); intro t hg W9 hbox hb; have BX := Aside0.mk hbox; have n_ := below_step HB.out hb; clear HB; have HB := Aside0.mk n_; obtain ⟨gc0, gc1, gc2, gc3, gc4⟩ := five hbox; clear n_ hg hbox hb)
    | (go_at_call 12; (with_reducible refine (CK.out _).mono ?_); rintro e W9 ⟨rfl, hb⟩; have n_ := below_step HB.out hb; have m_ := blk_below BX.out hb; clear HB BX gc0 gc1 gc2 gc3 gc4; have HB := Aside0.mk n_; have BX := Aside0.mk m_; obtain ⟨gc0, gc1, gc2, gc3, gc4⟩ := five m_; clear n_ m_ hb)
    | ((with_reducible refine gate_dst (N := 5) rfl ?_); refine box_event ?hg5 (N := 5) ?hd5 (cs := #[.pointer none, .slice none 0 0]) (t := 51) ?hr5 ?_; (case hd5 => rfl); (case hg5 => rfl); (case hr5 => first | (go_simp; done) | (go_simp; rfl)); intro b hg W9 hbox hb; have hF_ := TB.startP BX.out HB.out hg hbox hb; clear BX HB gc0 gc1 gc2 gc3 gc4; have F := Aside0.mk hF_; clear hF_ hg hbox hb; obtain ⟨gc0, gc1, gc2, gc3, gc4⟩ := F.out.cells)
    | (go_at_call 22; have h_ := TB.byte F.out 84 ((((ByteArray.mk #[80, 84, 75, 67, 83])[1]'(by decide)).toNat : Nat) : Int) (by first | rfl | decide) (by have l1 := itoa_len 0 W0.out W1.out; have l2 := itoa_len h H0.out H1.out; have l3 := tl_len 2 u s 1 S0.out S1.out; first | (simp only [List.length_append, List.length_cons, List.length_nil]; omega) | (simp only [List.length_append, List.length_cons, List.length_nil]; done) | omega); with_reducible refine h_.mono ?_; clear h_; rintro e W9 ⟨rfl, hF_⟩; clear F gc0 gc1 gc2 gc3 gc4; have F := Aside0.mk hF_; clear hF_; obtain ⟨gc0, gc1, gc2, gc3, gc4⟩ := F.out.cells)
    | (go_at_call 22; have h_ := TB.byte F.out 44 44 rfl (by have l1 := itoa_len 0 W0.out W1.out; have l2 := itoa_len h H0.out H1.out; have l3 := tl_len 2 u s 1 S0.out S1.out; first | (simp only [List.length_append, List.length_cons, List.length_nil]; omega) | (simp only [List.length_append, List.length_cons, List.length_nil]; done) | omega); with_reducible refine h_.mono ?_; clear h_; rintro e W9 ⟨rfl, hF_⟩; clear F gc0 gc1 gc2 gc3 gc4; have F := Aside0.mk hF_; clear hF_; obtain ⟨gc0, gc1, gc2, gc3, gc4⟩ := F.out.cells)
    | (go_at_call 25; have h_ := TB.num F.out 0 W0.out W1.out HP.out; with_reducible refine h_.mono ?_; clear h_; rintro e W9 ⟨rfl, hF_⟩; clear F gc0 gc1 gc2 gc3 gc4; have F := Aside0.mk hF_; clear hF_; obtain ⟨gc0, gc1, gc2, gc3, gc4⟩ := F.out.cells)
    | (go_at_call 25; have h_ := TB.num F.out h H0.out H1.out HP.out; with_reducible refine h_.mono ?_; clear h_; rintro e W9 ⟨rfl, hF_⟩; clear F gc0 gc1 gc2 gc3 gc4; have F := Aside0.mk hF_; clear hF_; obtain ⟨gc0, gc1, gc2, gc3, gc4⟩ := F.out.cells)
    | (go_at_call 24; have h_ := TB.text F.out (Lib.itoa 0) (by have := itoa_len 0 W0.out W1.out; omega) (by have l1 := itoa_len 0 W0.out W1.out; have l2 := itoa_len h H0.out H1.out; have l3 := tl_len 2 u s 1 S0.out S1.out; first | (simp only [List.length_append, List.length_cons, List.length_nil]; omega) | (simp only [List.length_append, List.length_cons, List.length_nil]; done) | omega); with_reducible refine h_.mono ?_; clear h_; rintro e W9 ⟨rfl, hF_⟩; clear F gc0 gc1 gc2 gc3 gc4; have F := Aside0.mk hF_; clear hF_; obtain ⟨gc0, gc1, gc2, gc3, gc4⟩ := F.out.cells)
    | (go_at_call 24; have h_ := TB.text F.out (Lib.itoa h) (by have := itoa_len h H0.out H1.out; omega) (by have l1 := itoa_len 0 W0.out W1.out; have l2 := itoa_len h H0.out H1.out; have l3 := tl_len 2 u s 1 S0.out S1.out; first | (simp only [List.length_append, List.length_cons, List.length_nil]; omega) | (simp only [List.length_append, List.length_cons, List.length_nil]; done) | omega); with_reducible refine h_.mono ?_; clear h_; rintro e W9 ⟨rfl, hF_⟩; clear F gc0 gc1 gc2 gc3 gc4; have F := Aside0.mk hF_; clear hF_; obtain ⟨gc0, gc1, gc2, gc3, gc4⟩ := F.out.cells)
    | (go_at_call 26; have h_ := tail 1 2 0 h u s S0.out S1.out _ _ _ _ (by have l1 := itoa_len 0 W0.out W1.out; have l2 := itoa_len h H0.out H1.out; have l3 := tl_len 2 u s 1 S0.out S1.out; first | (simp only [List.length_append, List.length_cons, List.length_nil]; omega) | (simp only [List.length_append, List.length_cons, List.length_nil]; done) | omega) F.out.bld F.out.le F.out.be HP.out; with_reducible refine h_.mono ?_; clear h_; rintro e W9 ⟨rfl, hA⟩; have hF_ := TB.after F.out hA; clear hA; clear F gc0 gc1 gc2 gc3 gc4; have F := Aside0.mk hF_; clear hF_; obtain ⟨gc0, gc1, gc2, gc3, gc4⟩ := F.out.cells)
    | (go_at_call 26; have h_ := tail 2 2 0 h u s S0.out S1.out _ _ _ _ (by have l1 := itoa_len 0 W0.out W1.out; have l2 := itoa_len h H0.out H1.out; have l3 := tl_len 2 u s 1 S0.out S1.out; first | (simp only [List.length_append, List.length_cons, List.length_nil]; omega) | (simp only [List.length_append, List.length_cons, List.length_nil]; done) | omega) F.out.bld F.out.le F.out.be HP.out; with_reducible refine h_.mono ?_; clear h_; rintro e W9 ⟨rfl, hA⟩; have hF_ := TB.after F.out hA; clear hA; clear F gc0 gc1 gc2 gc3 gc4; have F := Aside0.mk hF_; clear hF_; obtain ⟨gc0, gc1, gc2, gc3, gc4⟩ := F.out.cells)
    | (go_at_call 23; have h_ := Tryd.Builder_String_any _ _ _ _ F.out.bld (Nat.le_of_lt F.out.blt); with_reducible refine h_.mono ?_; clear h_; rintro e W9 ⟨rfl, hb⟩; have HE := Aside0.mk (F.out.be.trans (mono hb F.out.le)); clear F gc0 gc1 gc2 gc3 gc4 hb))
  go_ret2
  exact ⟨rfl, by repeat (first | exact HE.out | apply pw_below_drewN)⟩
set_option maxHeartbeats 4000000 in
set_option maxRecDepth 100000 in
theorem p_2_1 (u s : Int) (wd h : Int) (w0_ : -65536 ≤ (wd : Int)) (w1_ : (wd : Int) ≤ 65536) (h0_ : -65536 ≤ (h : Int)) (h1_ : (h : Int) ≤ 65536) (s0_ : -65536 ≤ s) (s1_ : s ≤ 65536) (hw : (wd == 0) = false) (w : World) (hp : Pow w) (ck : ∀ W : World, Calls Tryd.prog 12 #[.agg #[.int .u8 2, .int .i64 wd, .int .i64 h, .int .u8 u, .int .i64 s]] W fun e w' => e = .returned (.int .i64 0) ∧ Below W.heap.size W w') :
    Calls Tryd.prog 10 #[.agg #[.int .u8 2, .int .i64 wd, .int .i64 h, .int .u8 u, .int .i64 s]] w fun e w' => e = .returned (.tuple #[.string ⟨(84 :: (Lib.itoa wd ++ (tl 2 u s 1 ++ 44 :: (Lib.itoa h ++ tl 2 u s 2))) : List UInt8).toArray⟩, .int .i64 0]) ∧ Below w.heap.size w w' := by
  have W0 := Aside0.mk w0_; have W1 := Aside0.mk w1_; have H0 := Aside0.mk h0_; have H1 := Aside0.mk h1_; have S0 := Aside0.mk s0_; have S1 := Aside0.mk s1_; clear w0_ w1_ h0_ h1_ s0_ s1_
  have CK := Aside0.mk ck; have HP := Aside0.mk hp; have HB := Aside0.mk (Below.refl w.heap.size w)
  have hu := Tryd.underlying23
  clear ck hp
  go_enter Tryd.func10, Tryd.ntmps10
  go_wp2_with (first
    | ((with_reducible refine gate_dst (N := 1) rfl ?_); refine box_event ?hg (N := 1) ?hd (cs := #[.int .u8 2, .int .i64 wd, .int .i64 h, .int .u8 u, .int .i64 s]) (t := 23) ?hr ?_; (case hd => rfl); (case hg => rfl); (case hr => first | (go_simp; done) | (go_simp; rfl)); intro t hg W9 hbox hb; have BX := Aside0.mk hbox; have n_ := below_step HB.out hb; clear HB; have HB := Aside0.mk n_; obtain ⟨gc0, gc1, gc2, gc3, gc4⟩ := five hbox; clear n_ hg hbox hb)
    | (go_at_call 12; (with_reducible refine (CK.out _).mono ?_); rintro e W9 ⟨rfl, hb⟩; have n_ := below_step HB.out hb; have m_ := blk_below BX.out hb; clear HB BX gc0 gc1 gc2 gc3 gc4; have HB := Aside0.mk n_; have BX := Aside0.mk m_; obtain ⟨gc0, gc1, gc2, gc3, gc4⟩ := five m_; clear n_ m_ hb)
    | ((with_reducible refine gate_dst (N := 5) rfl ?_); refine box_event ?hg5 (N := 5) ?hd5 (cs := #[.pointer none, .slice none 0 0]) (t := 51) ?hr5 ?_; (case hd5 => rfl); (case hg5 => rfl); (case hr5 => first | (go_simp; done) | (go_simp; rfl)); intro b hg W9 hbox hb; have hF_ := TB.startP BX.out HB.out hg hbox hb; clear BX HB gc0 gc1 gc2 gc3 gc4; have F := Aside0.mk hF_; clear hF_ hg hbox hb; obtain ⟨gc0, gc1, gc2, gc3, gc4⟩ := F.out.cells)
    | (go_at_call 22; have h_ := TB.byte F.out 84 ((((ByteArray.mk #[80, 84, 75, 67, 83])[1]'(by decide)).toNat : Nat) : Int) (by first | rfl | decide) (by have l1 := itoa_len wd W0.out W1.out; have l2 := itoa_len h H0.out H1.out; have l3 := tl_len 2 u s 1 S0.out S1.out; first | (simp only [List.length_append, List.length_cons, List.length_nil]; omega) | (simp only [List.length_append, List.length_cons, List.length_nil]; done) | omega); with_reducible refine h_.mono ?_; clear h_; rintro e W9 ⟨rfl, hF_⟩; clear F gc0 gc1 gc2 gc3 gc4; have F := Aside0.mk hF_; clear hF_; obtain ⟨gc0, gc1, gc2, gc3, gc4⟩ := F.out.cells)
    | (go_at_call 22; have h_ := TB.byte F.out 44 44 rfl (by have l1 := itoa_len wd W0.out W1.out; have l2 := itoa_len h H0.out H1.out; have l3 := tl_len 2 u s 1 S0.out S1.out; first | (simp only [List.length_append, List.length_cons, List.length_nil]; omega) | (simp only [List.length_append, List.length_cons, List.length_nil]; done) | omega); with_reducible refine h_.mono ?_; clear h_; rintro e W9 ⟨rfl, hF_⟩; clear F gc0 gc1 gc2 gc3 gc4; have F := Aside0.mk hF_; clear hF_; obtain ⟨gc0, gc1, gc2, gc3, gc4⟩ := F.out.cells)
    | (go_at_call 25; have h_ := TB.num F.out wd W0.out W1.out HP.out; with_reducible refine h_.mono ?_; clear h_; rintro e W9 ⟨rfl, hF_⟩; clear F gc0 gc1 gc2 gc3 gc4; have F := Aside0.mk hF_; clear hF_; obtain ⟨gc0, gc1, gc2, gc3, gc4⟩ := F.out.cells)
    | (go_at_call 25; have h_ := TB.num F.out h H0.out H1.out HP.out; with_reducible refine h_.mono ?_; clear h_; rintro e W9 ⟨rfl, hF_⟩; clear F gc0 gc1 gc2 gc3 gc4; have F := Aside0.mk hF_; clear hF_; obtain ⟨gc0, gc1, gc2, gc3, gc4⟩ := F.out.cells)
    | (go_at_call 24; have h_ := TB.text F.out (Lib.itoa wd) (by have := itoa_len wd W0.out W1.out; omega) (by have l1 := itoa_len wd W0.out W1.out; have l2 := itoa_len h H0.out H1.out; have l3 := tl_len 2 u s 1 S0.out S1.out; first | (simp only [List.length_append, List.length_cons, List.length_nil]; omega) | (simp only [List.length_append, List.length_cons, List.length_nil]; done) | omega); with_reducible refine h_.mono ?_; clear h_; rintro e W9 ⟨rfl, hF_⟩; clear F gc0 gc1 gc2 gc3 gc4; have F := Aside0.mk hF_; clear hF_; obtain ⟨gc0, gc1, gc2, gc3, gc4⟩ := F.out.cells)
    | (go_at_call 24; have h_ := TB.text F.out (Lib.itoa h) (by have := itoa_len h H0.out H1.out; omega) (by have l1 := itoa_len wd W0.out W1.out; have l2 := itoa_len h H0.out H1.out; have l3 := tl_len 2 u s 1 S0.out S1.out; first | (simp only [List.length_append, List.length_cons, List.length_nil]; omega) | (simp only [List.length_append, List.length_cons, List.length_nil]; done) | omega); with_reducible refine h_.mono ?_; clear h_; rintro e W9 ⟨rfl, hF_⟩; clear F gc0 gc1 gc2 gc3 gc4; have F := Aside0.mk hF_; clear hF_; obtain ⟨gc0, gc1, gc2, gc3, gc4⟩ := F.out.cells)
    | (go_at_call 26; have h_ := tail 1 2 wd h u s S0.out S1.out _ _ _ _ (by have l1 := itoa_len wd W0.out W1.out; have l2 := itoa_len h H0.out H1.out; have l3 := tl_len 2 u s 1 S0.out S1.out; first | (simp only [List.length_append, List.length_cons, List.length_nil]; omega) | (simp only [List.length_append, List.length_cons, List.length_nil]; done) | omega) F.out.bld F.out.le F.out.be HP.out; with_reducible refine h_.mono ?_; clear h_; rintro e W9 ⟨rfl, hA⟩; have hF_ := TB.after F.out hA; clear hA; clear F gc0 gc1 gc2 gc3 gc4; have F := Aside0.mk hF_; clear hF_; obtain ⟨gc0, gc1, gc2, gc3, gc4⟩ := F.out.cells)
    | (go_at_call 26; have h_ := tail 2 2 wd h u s S0.out S1.out _ _ _ _ (by have l1 := itoa_len wd W0.out W1.out; have l2 := itoa_len h H0.out H1.out; have l3 := tl_len 2 u s 1 S0.out S1.out; first | (simp only [List.length_append, List.length_cons, List.length_nil]; omega) | (simp only [List.length_append, List.length_cons, List.length_nil]; done) | omega) F.out.bld F.out.le F.out.be HP.out; with_reducible refine h_.mono ?_; clear h_; rintro e W9 ⟨rfl, hA⟩; have hF_ := TB.after F.out hA; clear hA; clear F gc0 gc1 gc2 gc3 gc4; have F := Aside0.mk hF_; clear hF_; obtain ⟨gc0, gc1, gc2, gc3, gc4⟩ := F.out.cells)
    | (go_at_call 23; have h_ := Tryd.Builder_String_any _ _ _ _ F.out.bld (Nat.le_of_lt F.out.blt); with_reducible refine h_.mono ?_; clear h_; rintro e W9 ⟨rfl, hb⟩; have HE := Aside0.mk (F.out.be.trans (mono hb F.out.le)); clear F gc0 gc1 gc2 gc3 gc4 hb))
  go_ret2
  exact ⟨rfl, by repeat (first | exact HE.out | apply pw_below_drewN)⟩
set_option maxHeartbeats 4000000 in
set_option maxRecDepth 100000 in
theorem p_3_1 (u s : Int) (wd h : Int) (w0_ : -65536 ≤ (wd : Int)) (w1_ : (wd : Int) ≤ 65536) (h0_ : -65536 ≤ (h : Int)) (h1_ : (h : Int) ≤ 65536) (s0_ : -65536 ≤ s) (s1_ : s ≤ 65536) (hw : (wd == 0) = false) (w : World) (hp : Pow w) (ck : ∀ W : World, Calls Tryd.prog 12 #[.agg #[.int .u8 3, .int .i64 wd, .int .i64 h, .int .u8 u, .int .i64 s]] W fun e w' => e = .returned (.int .i64 0) ∧ Below W.heap.size W w') :
    Calls Tryd.prog 10 #[.agg #[.int .u8 3, .int .i64 wd, .int .i64 h, .int .u8 u, .int .i64 s]] w fun e w' => e = .returned (.tuple #[.string ⟨(75 :: (Lib.itoa wd ++ (tl 3 u s 1 ++ 44 :: (Lib.itoa h ++ tl 3 u s 2))) : List UInt8).toArray⟩, .int .i64 0]) ∧ Below w.heap.size w w' := by
  have W0 := Aside0.mk w0_; have W1 := Aside0.mk w1_; have H0 := Aside0.mk h0_; have H1 := Aside0.mk h1_; have S0 := Aside0.mk s0_; have S1 := Aside0.mk s1_; clear w0_ w1_ h0_ h1_ s0_ s1_
  have CK := Aside0.mk ck; have HP := Aside0.mk hp; have HB := Aside0.mk (Below.refl w.heap.size w)
  have hu := Tryd.underlying23
  clear ck hp
  go_enter Tryd.func10, Tryd.ntmps10
  go_wp2_with (first
    | ((with_reducible refine gate_dst (N := 1) rfl ?_); refine box_event ?hg (N := 1) ?hd (cs := #[.int .u8 3, .int .i64 wd, .int .i64 h, .int .u8 u, .int .i64 s]) (t := 23) ?hr ?_; (case hd => rfl); (case hg => rfl); (case hr => first | (go_simp; done) | (go_simp; rfl)); intro t hg W9 hbox hb; have BX := Aside0.mk hbox; have n_ := below_step HB.out hb; clear HB; have HB := Aside0.mk n_; obtain ⟨gc0, gc1, gc2, gc3, gc4⟩ := five hbox; clear n_ hg hbox hb)
    | (go_at_call 12; (with_reducible refine (CK.out _).mono ?_); rintro e W9 ⟨rfl, hb⟩; have n_ := below_step HB.out hb; have m_ := blk_below BX.out hb; clear HB BX gc0 gc1 gc2 gc3 gc4; have HB := Aside0.mk n_; have BX := Aside0.mk m_; obtain ⟨gc0, gc1, gc2, gc3, gc4⟩ := five m_; clear n_ m_ hb)
    | ((with_reducible refine gate_dst (N := 5) rfl ?_); refine box_event ?hg5 (N := 5) ?hd5 (cs := #[.pointer none, .slice none 0 0]) (t := 51) ?hr5 ?_; (case hd5 => rfl); (case hg5 => rfl); (case hr5 => first | (go_simp; done) | (go_simp; rfl)); intro b hg W9 hbox hb; have hF_ := TB.startP BX.out HB.out hg hbox hb; clear BX HB gc0 gc1 gc2 gc3 gc4; have F := Aside0.mk hF_; clear hF_ hg hbox hb; obtain ⟨gc0, gc1, gc2, gc3, gc4⟩ := F.out.cells)
    | (go_at_call 22; have h_ := TB.byte F.out 75 ((((ByteArray.mk #[80, 84, 75, 67, 83])[2]'(by decide)).toNat : Nat) : Int) (by first | rfl | decide) (by have l1 := itoa_len wd W0.out W1.out; have l2 := itoa_len h H0.out H1.out; have l3 := tl_len 3 u s 1 S0.out S1.out; first | (simp only [List.length_append, List.length_cons, List.length_nil]; omega) | (simp only [List.length_append, List.length_cons, List.length_nil]; done) | omega); with_reducible refine h_.mono ?_; clear h_; rintro e W9 ⟨rfl, hF_⟩; clear F gc0 gc1 gc2 gc3 gc4; have F := Aside0.mk hF_; clear hF_; obtain ⟨gc0, gc1, gc2, gc3, gc4⟩ := F.out.cells)
    | (go_at_call 22; have h_ := TB.byte F.out 44 44 rfl (by have l1 := itoa_len wd W0.out W1.out; have l2 := itoa_len h H0.out H1.out; have l3 := tl_len 3 u s 1 S0.out S1.out; first | (simp only [List.length_append, List.length_cons, List.length_nil]; omega) | (simp only [List.length_append, List.length_cons, List.length_nil]; done) | omega); with_reducible refine h_.mono ?_; clear h_; rintro e W9 ⟨rfl, hF_⟩; clear F gc0 gc1 gc2 gc3 gc4; have F := Aside0.mk hF_; clear hF_; obtain ⟨gc0, gc1, gc2, gc3, gc4⟩ := F.out.cells)
    | (go_at_call 25; have h_ := TB.num F.out wd W0.out W1.out HP.out; with_reducible refine h_.mono ?_; clear h_; rintro e W9 ⟨rfl, hF_⟩; clear F gc0 gc1 gc2 gc3 gc4; have F := Aside0.mk hF_; clear hF_; obtain ⟨gc0, gc1, gc2, gc3, gc4⟩ := F.out.cells)
    | (go_at_call 25; have h_ := TB.num F.out h H0.out H1.out HP.out; with_reducible refine h_.mono ?_; clear h_; rintro e W9 ⟨rfl, hF_⟩; clear F gc0 gc1 gc2 gc3 gc4; have F := Aside0.mk hF_; clear hF_; obtain ⟨gc0, gc1, gc2, gc3, gc4⟩ := F.out.cells)
    | (go_at_call 24; have h_ := TB.text F.out (Lib.itoa wd) (by have := itoa_len wd W0.out W1.out; omega) (by have l1 := itoa_len wd W0.out W1.out; have l2 := itoa_len h H0.out H1.out; have l3 := tl_len 3 u s 1 S0.out S1.out; first | (simp only [List.length_append, List.length_cons, List.length_nil]; omega) | (simp only [List.length_append, List.length_cons, List.length_nil]; done) | omega); with_reducible refine h_.mono ?_; clear h_; rintro e W9 ⟨rfl, hF_⟩; clear F gc0 gc1 gc2 gc3 gc4; have F := Aside0.mk hF_; clear hF_; obtain ⟨gc0, gc1, gc2, gc3, gc4⟩ := F.out.cells)
    | (go_at_call 24; have h_ := TB.text F.out (Lib.itoa h) (by have := itoa_len h H0.out H1.out; omega) (by have l1 := itoa_len wd W0.out W1.out; have l2 := itoa_len h H0.out H1.out; have l3 := tl_len 3 u s 1 S0.out S1.out; first | (simp only [List.length_append, List.length_cons, List.length_nil]; omega) | (simp only [List.length_append, List.length_cons, List.length_nil]; done) | omega); with_reducible refine h_.mono ?_; clear h_; rintro e W9 ⟨rfl, hF_⟩; clear F gc0 gc1 gc2 gc3 gc4; have F := Aside0.mk hF_; clear hF_; obtain ⟨gc0, gc1, gc2, gc3, gc4⟩ := F.out.cells)
    | (go_at_call 26; have h_ := tail 1 3 wd h u s S0.out S1.out _ _ _ _ (by have l1 := itoa_len wd W0.out W1.out; have l2 := itoa_len h H0.out H1.out; have l3 := tl_len 3 u s 1 S0.out S1.out; first | (simp only [List.length_append, List.length_cons, List.length_nil]; omega) | (simp only [List.length_append, List.length_cons, List.length_nil]; done) | omega) F.out.bld F.out.le F.out.be HP.out; with_reducible refine h_.mono ?_; clear h_; rintro e W9 ⟨rfl, hA⟩; have hF_ := TB.after F.out hA; clear hA; clear F gc0 gc1 gc2 gc3 gc4; have F := Aside0.mk hF_; clear hF_; obtain ⟨gc0, gc1, gc2, gc3, gc4⟩ := F.out.cells)
    | (go_at_call 26; have h_ := tail 2 3 wd h u s S0.out S1.out _ _ _ _ (by have l1 := itoa_len wd W0.out W1.out; have l2 := itoa_len h H0.out H1.out; have l3 := tl_len 3 u s 1 S0.out S1.out; first | (simp only [List.length_append, List.length_cons, List.length_nil]; omega) | (simp only [List.length_append, List.length_cons, List.length_nil]; done) | omega) F.out.bld F.out.le F.out.be HP.out; with_reducible refine h_.mono ?_; clear h_; rintro e W9 ⟨rfl, hA⟩; have hF_ := TB.after F.out hA; clear hA; clear F gc0 gc1 gc2 gc3 gc4; have F := Aside0.mk hF_; clear hF_; obtain ⟨gc0, gc1, gc2, gc3, gc4⟩ := F.out.cells)
    | (go_at_call 23; have h_ := Tryd.Builder_String_any _ _ _ _ F.out.bld (Nat.le_of_lt F.out.blt); with_reducible refine h_.mono ?_; clear h_; rintro e W9 ⟨rfl, hb⟩; have HE := Aside0.mk (F.out.be.trans (mono hb F.out.le)); clear F gc0 gc1 gc2 gc3 gc4 hb))
  go_ret2
  exact ⟨rfl, by repeat (first | exact HE.out | apply pw_below_drewN)⟩
set_option maxHeartbeats 4000000 in
set_option maxRecDepth 100000 in
theorem p_4_1 (u s : Int) (wd h : Int) (w0_ : -65536 ≤ (wd : Int)) (w1_ : (wd : Int) ≤ 65536) (h0_ : -65536 ≤ (h : Int)) (h1_ : (h : Int) ≤ 65536) (s0_ : -65536 ≤ s) (s1_ : s ≤ 65536) (hw : (wd == 0) = false) (w : World) (hp : Pow w) (ck : ∀ W : World, Calls Tryd.prog 12 #[.agg #[.int .u8 4, .int .i64 wd, .int .i64 h, .int .u8 u, .int .i64 s]] W fun e w' => e = .returned (.int .i64 0) ∧ Below W.heap.size W w') :
    Calls Tryd.prog 10 #[.agg #[.int .u8 4, .int .i64 wd, .int .i64 h, .int .u8 u, .int .i64 s]] w fun e w' => e = .returned (.tuple #[.string ⟨(67 :: (Lib.itoa wd ++ (tl 4 u s 1 ++ 44 :: (Lib.itoa h ++ tl 4 u s 2))) : List UInt8).toArray⟩, .int .i64 0]) ∧ Below w.heap.size w w' := by
  have W0 := Aside0.mk w0_; have W1 := Aside0.mk w1_; have H0 := Aside0.mk h0_; have H1 := Aside0.mk h1_; have S0 := Aside0.mk s0_; have S1 := Aside0.mk s1_; clear w0_ w1_ h0_ h1_ s0_ s1_
  have CK := Aside0.mk ck; have HP := Aside0.mk hp; have HB := Aside0.mk (Below.refl w.heap.size w)
  have hu := Tryd.underlying23
  clear ck hp
  go_enter Tryd.func10, Tryd.ntmps10
  go_wp2_with (first
    | ((with_reducible refine gate_dst (N := 1) rfl ?_); refine box_event ?hg (N := 1) ?hd (cs := #[.int .u8 4, .int .i64 wd, .int .i64 h, .int .u8 u, .int .i64 s]) (t := 23) ?hr ?_; (case hd => rfl); (case hg => rfl); (case hr => first | (go_simp; done) | (go_simp; rfl)); intro t hg W9 hbox hb; have BX := Aside0.mk hbox; have n_ := below_step HB.out hb; clear HB; have HB := Aside0.mk n_; obtain ⟨gc0, gc1, gc2, gc3, gc4⟩ := five hbox; clear n_ hg hbox hb)
    | (go_at_call 12; (with_reducible refine (CK.out _).mono ?_); rintro e W9 ⟨rfl, hb⟩; have n_ := below_step HB.out hb; have m_ := blk_below BX.out hb; clear HB BX gc0 gc1 gc2 gc3 gc4; have HB := Aside0.mk n_; have BX := Aside0.mk m_; obtain ⟨gc0, gc1, gc2, gc3, gc4⟩ := five m_; clear n_ m_ hb)
    | ((with_reducible refine gate_dst (N := 5) rfl ?_); refine box_event ?hg5 (N := 5) ?hd5 (cs := #[.pointer none, .slice none 0 0]) (t := 51) ?hr5 ?_; (case hd5 => rfl); (case hg5 => rfl); (case hr5 => first | (go_simp; done) | (go_simp; rfl)); intro b hg W9 hbox hb; have hF_ := TB.startP BX.out HB.out hg hbox hb; clear BX HB gc0 gc1 gc2 gc3 gc4; have F := Aside0.mk hF_; clear hF_ hg hbox hb; obtain ⟨gc0, gc1, gc2, gc3, gc4⟩ := F.out.cells)
    | (go_at_call 22; have h_ := TB.byte F.out 67 ((((ByteArray.mk #[80, 84, 75, 67, 83])[3]'(by decide)).toNat : Nat) : Int) (by first | rfl | decide) (by have l1 := itoa_len wd W0.out W1.out; have l2 := itoa_len h H0.out H1.out; have l3 := tl_len 4 u s 1 S0.out S1.out; first | (simp only [List.length_append, List.length_cons, List.length_nil]; omega) | (simp only [List.length_append, List.length_cons, List.length_nil]; done) | omega); with_reducible refine h_.mono ?_; clear h_; rintro e W9 ⟨rfl, hF_⟩; clear F gc0 gc1 gc2 gc3 gc4; have F := Aside0.mk hF_; clear hF_; obtain ⟨gc0, gc1, gc2, gc3, gc4⟩ := F.out.cells)
    | (go_at_call 22; have h_ := TB.byte F.out 44 44 rfl (by have l1 := itoa_len wd W0.out W1.out; have l2 := itoa_len h H0.out H1.out; have l3 := tl_len 4 u s 1 S0.out S1.out; first | (simp only [List.length_append, List.length_cons, List.length_nil]; omega) | (simp only [List.length_append, List.length_cons, List.length_nil]; done) | omega); with_reducible refine h_.mono ?_; clear h_; rintro e W9 ⟨rfl, hF_⟩; clear F gc0 gc1 gc2 gc3 gc4; have F := Aside0.mk hF_; clear hF_; obtain ⟨gc0, gc1, gc2, gc3, gc4⟩ := F.out.cells)
    | (go_at_call 25; have h_ := TB.num F.out wd W0.out W1.out HP.out; with_reducible refine h_.mono ?_; clear h_; rintro e W9 ⟨rfl, hF_⟩; clear F gc0 gc1 gc2 gc3 gc4; have F := Aside0.mk hF_; clear hF_; obtain ⟨gc0, gc1, gc2, gc3, gc4⟩ := F.out.cells)
    | (go_at_call 25; have h_ := TB.num F.out h H0.out H1.out HP.out; with_reducible refine h_.mono ?_; clear h_; rintro e W9 ⟨rfl, hF_⟩; clear F gc0 gc1 gc2 gc3 gc4; have F := Aside0.mk hF_; clear hF_; obtain ⟨gc0, gc1, gc2, gc3, gc4⟩ := F.out.cells)
    | (go_at_call 24; have h_ := TB.text F.out (Lib.itoa wd) (by have := itoa_len wd W0.out W1.out; omega) (by have l1 := itoa_len wd W0.out W1.out; have l2 := itoa_len h H0.out H1.out; have l3 := tl_len 4 u s 1 S0.out S1.out; first | (simp only [List.length_append, List.length_cons, List.length_nil]; omega) | (simp only [List.length_append, List.length_cons, List.length_nil]; done) | omega); with_reducible refine h_.mono ?_; clear h_; rintro e W9 ⟨rfl, hF_⟩; clear F gc0 gc1 gc2 gc3 gc4; have F := Aside0.mk hF_; clear hF_; obtain ⟨gc0, gc1, gc2, gc3, gc4⟩ := F.out.cells)
    | (go_at_call 24; have h_ := TB.text F.out (Lib.itoa h) (by have := itoa_len h H0.out H1.out; omega) (by have l1 := itoa_len wd W0.out W1.out; have l2 := itoa_len h H0.out H1.out; have l3 := tl_len 4 u s 1 S0.out S1.out; first | (simp only [List.length_append, List.length_cons, List.length_nil]; omega) | (simp only [List.length_append, List.length_cons, List.length_nil]; done) | omega); with_reducible refine h_.mono ?_; clear h_; rintro e W9 ⟨rfl, hF_⟩; clear F gc0 gc1 gc2 gc3 gc4; have F := Aside0.mk hF_; clear hF_; obtain ⟨gc0, gc1, gc2, gc3, gc4⟩ := F.out.cells)
    | (go_at_call 26; have h_ := tail 1 4 wd h u s S0.out S1.out _ _ _ _ (by have l1 := itoa_len wd W0.out W1.out; have l2 := itoa_len h H0.out H1.out; have l3 := tl_len 4 u s 1 S0.out S1.out; first | (simp only [List.length_append, List.length_cons, List.length_nil]; omega) | (simp only [List.length_append, List.length_cons, List.length_nil]; done) | omega) F.out.bld F.out.le F.out.be HP.out; with_reducible refine h_.mono ?_; clear h_; rintro e W9 ⟨rfl, hA⟩; have hF_ := TB.after F.out hA; clear hA; clear F gc0 gc1 gc2 gc3 gc4; have F := Aside0.mk hF_; clear hF_; obtain ⟨gc0, gc1, gc2, gc3, gc4⟩ := F.out.cells)
    | (go_at_call 26; have h_ := tail 2 4 wd h u s S0.out S1.out _ _ _ _ (by have l1 := itoa_len wd W0.out W1.out; have l2 := itoa_len h H0.out H1.out; have l3 := tl_len 4 u s 1 S0.out S1.out; first | (simp only [List.length_append, List.length_cons, List.length_nil]; omega) | (simp only [List.length_append, List.length_cons, List.length_nil]; done) | omega) F.out.bld F.out.le F.out.be HP.out; with_reducible refine h_.mono ?_; clear h_; rintro e W9 ⟨rfl, hA⟩; have hF_ := TB.after F.out hA; clear hA; clear F gc0 gc1 gc2 gc3 gc4; have F := Aside0.mk hF_; clear hF_; obtain ⟨gc0, gc1, gc2, gc3, gc4⟩ := F.out.cells)
    | (go_at_call 23; have h_ := Tryd.Builder_String_any _ _ _ _ F.out.bld (Nat.le_of_lt F.out.blt); with_reducible refine h_.mono ?_; clear h_; rintro e W9 ⟨rfl, hb⟩; have HE := Aside0.mk (F.out.be.trans (mono hb F.out.le)); clear F gc0 gc1 gc2 gc3 gc4 hb))
  go_ret2
  exact ⟨rfl, by repeat (first | exact HE.out | apply pw_below_drewN)⟩
/-- A topology that may be. -/
theorem okT (k w h u s : Int) (hu : 0 ≤ u) (hc : checkR k w h u s = 0) : OkT k w h u s := by
  unfold checkR at hc
  by_cases n1 : k < 1 ∨ k > 5
  · rw [if_pos n1] at hc; omega
  rw [if_neg n1] at hc
  by_cases n2 : w < 0 ∨ w > 65536 ∨ h < 0 ∨ h > 65536 ∨ (k = 5 ∧ w ≠ h)
  · rw [if_pos n2] at hc; omega
  rw [if_neg n2] at hc
  by_cases n3 : k ≥ 3 ∧ (w = 0 ∨ h = 0)
  · rw [if_pos n3] at hc; omega
  rw [if_neg n3] at hc
  unfold turnR at hc
  by_cases n4 : u > 2 ∨ (u ≠ 0 ∧ k ≠ 2 ∧ k ≠ 3) ∨ (u = 0 ∧ k = 3)
  · rw [if_pos n4] at hc; omega
  rw [if_neg n4] at hc
  refine ⟨by omega, by omega, by omega, by omega, by omega, by omega, fun _ => by omega, fun _ => by omega, ?_⟩
  by_cases n5 : u = 0
  · rw [if_pos n5] at hc
    by_cases n6 : s = 0
    · exact .inl ⟨n5, n6, fun e => n4 (.inr (.inr ⟨n5, e⟩))⟩
    · rw [if_neg n6] at hc; omega
  · rw [if_neg n5] at hc
    unfold lastR at hc
    right
    by_cases n6 : u = 2
    · simp only [n6, if_true] at hc
      by_cases n7 : s ≥ h ∨ s ≤ -h
      · rw [if_pos n7] at hc; omega
      rw [if_neg n7] at hc
      by_cases n8 : k = 2 ∧ (s = 0 ∨ w = 0 ∨ h = 0)
      · rw [if_pos n8] at hc; omega
      exact ⟨by omega, .inr ⟨n6, by omega, by omega⟩⟩
    · simp only [if_neg n6] at hc
      by_cases n7 : s ≥ w ∨ s ≤ -w
      · rw [if_pos n7] at hc; omega
      rw [if_neg n7] at hc
      by_cases n8 : k = 2 ∧ (s = 0 ∨ w = 0 ∨ h = 0)
      · rw [if_pos n8] at hc; omega
      exact ⟨by omega, .inl ⟨by omega, by omega, by omega⟩⟩
theorem ok_check (k w h u s : Int) (hO : OkT k w h u s) : checkR k w h u s = 0 := by
  unfold OkT at hO
  unfold checkR turnR lastR
  grind
/-- What Print answers. -/
def printR (k w h u s : Int) : ByteArray × Int := if checkR k w h u s = 0 then (S (printL k w h u s), 0) else (ByteArray.empty, checkR k w h u s)
theorem print_calls (k wd h u s : Int) (hu : 0 ≤ u) (w : World) (hp : Pow w) :
    Calls Tryd.prog 10 #[.agg #[.int .u8 k, .int .i64 wd, .int .i64 h, .int .u8 u, .int .i64 s]] w fun e w' => e = .returned (.tuple #[.string (printR k wd h u s).1, .int .i64 (printR k wd h u s).2]) ∧ Below w.heap.size w w' := by
  have ck := fun (W : World) => topo_Check.calls 5 k wd h u s _ W (prog_check k wd h u s 0)
  unfold printR
  by_cases hc : checkR k wd h u s = 0
  · rw [if_pos hc]
    have hO := okT k wd h u s hu hc
    rw [hc] at ck
    clear hc
    obtain ⟨a1, a2, a3, a4, a5, a6, a7, a8, a9⟩ := hO
    have x0 : -65536 ≤ s := by omega
    have x1 : s ≤ 65536 := by omega
    clear a9
    have w0 : -65536 ≤ wd := by omega
    have h0 : -65536 ≤ h := by omega
    dsimp only
    unfold S printL
    by_cases c5 : k = 5
    · subst c5
      obtain ⟨z, _⟩ := a8 (by omega)
      rw [if_neg (fun q => z q.1), if_pos rfl, List.append_nil]
      exact p_5 u s wd h w0 a4 h0 a6 x0 x1 (beq_eq_false_iff_ne.mpr z) w hp ck
    · by_cases c0 : wd = 0
      · subst c0
        by_cases ch : h = 0
        · subst ch
          rw [if_pos ⟨rfl, rfl⟩]
          obtain rfl | rfl : k = 1 ∨ k = 2 := by omega
          · exact p_0_1 u s (by omega) (by omega) (by omega) (by omega) x0 x1 w hp ck
          · exact p_0_2 u s (by omega) (by omega) (by omega) (by omega) x0 x1 w hp ck
        · rw [if_neg (fun q => ch q.2), if_neg c5]
          obtain rfl | rfl : k = 1 ∨ k = 2 := by omega
          · exact p_1_0 u s h (by omega) (by omega) h0 a6 x0 x1 (beq_eq_false_iff_ne.mpr ch) w hp ck
          · exact p_2_0 u s h (by omega) (by omega) h0 a6 x0 x1 (beq_eq_false_iff_ne.mpr ch) w hp ck
      · rw [if_neg (fun q => c0 q.1), if_neg c5]
        have hw := beq_eq_false_iff_ne.mpr c0
        obtain rfl | rfl | rfl | rfl : k = 1 ∨ k = 2 ∨ k = 3 ∨ k = 4 := by omega
        · exact p_1_1 u s wd h w0 a4 h0 a6 x0 x1 hw w hp ck
        · exact p_2_1 u s wd h w0 a4 h0 a6 x0 x1 hw w hp ck
        · exact p_3_1 u s wd h w0 a4 h0 a6 x0 x1 hw w hp ck
        · exact p_4_1 u s wd h w0 a4 h0 a6 x0 x1 hw w hp ck
  · rw [if_neg hc]
    exact p_bad u s k wd h _ (bne_iff_ne.mpr hc) w hp ck
end Go.Proofs.YtmcidodpnhkdfaaDoor.PrintWalk
