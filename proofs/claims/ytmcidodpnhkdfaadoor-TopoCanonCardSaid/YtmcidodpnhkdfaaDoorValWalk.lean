/- reader.value: a number's worth, as far as it is of interest. -/
import Derived.Test.YtmcidodpnhkdfaaDoorParseSpec
import Derived.Test.YtmcidodpnhkdfaaDoorPQr
import Derived.Laws.DeepStrings4
namespace Go.Proofs.YtmcidodpnhkdfaaDoor.ValWalk
open Go.RowKit Go.Proofs.YtmcidodpnhkdfaaDoorW.PrintWords Go.Proofs.YtmcidodpnhkdfaaDoorW.PrintLast Go.Proofs.YtmcidodpnhkdfaaDoorW.PrintMore Go.Proofs.YtmcidodpnhkdfaaDoor.ParseSpec
attribute [local go_sem] max2_int min2_int max_two min_two
set_option linter.unusedVariables false
set_option linter.unusedSimpArgs false
section
variable {P : Program} {ops : Array Oper} {rest : List Oper} {o : Oper} {a : Act} {Q : Exit → Act → World → Prop}
/-- []byte(s): a new row that is read. -/
theorem conv_event {W : World} (hgd : o.guard = none) {N : Tmp} (_hd : o.dst = some N) {src dst e : TypeId} {u : TypeDesc} {x : Operand} {s : ByteArray} (ho : o.op = .convert src dst x) (hx : a.eval x = .string s) (hs : P.underlying src = some u) (hd : P.underlying dst = some (.slice e)) (he : P.underlying e = some (.int .u8)) (hl : s.size ≤ 9223372036854775807)
    (h : ∀ g c w1, ReadsInt w1 .u8 (some ⟨g, 0, none⟩) s.size (bytesOf s) → Below W.heap.size W w1 → wpList P ops Q rest (a.put o.dst (.slice (some ⟨g, 0, none⟩) s.size c)) w1) : wpList P ops Q (o :: rest) a W := by
  refine Kd.event_run hgd (v := .slice (some ⟨W.heap.size, 0, none⟩) s.size (grownCap W s.size 0 e)) ?_ (h _ _ _ (bytes_reads W e s hl) (bytes_below (Below.refl _ _) (Nat.le_refl _) e s))
  unfold execOp
  simp only [ho, hx]
  have := print_bytes src dst e hs hd he s W
  simp only [Sem.run_bind, this, Result.andThen_ok, Sem.run_pure]
variable {Kc : Act → World → Prop}
theorem conv_step {W : World} (hw : Region.wanted o (yielded ops a.tmps) = true) {N : Option Tmp} (hN : o.dst = N) {src dst e : TypeId} {u : TypeDesc} {x : Operand} {s : ByteArray} (ho : o.op = .convert src dst x) (hx : a.eval x = .string s) (hs : P.underlying src = some u) (hd : P.underlying dst = some (.slice e)) (he : P.underlying e = some (.int .u8)) (m : Nat) (hsm : s.size = m) (hl : m ≤ 9223372036854775807)
    (h : ∀ g c w1, ReadsInt w1 .u8 (some ⟨g, 0, none⟩) m (bytesOf s) → Below W.heap.size W w1 → Kc (a.put N (.slice (some ⟨g, 0, none⟩) m c)) w1) : if Region.wanted o (yielded ops a.tmps) = true then Oper.wp P o a W Kc Q else Kc (a.put N undef) W := by
  subst hN
  subst hsm
  refine event_step hw (v := .slice (some ⟨W.heap.size, 0, none⟩) s.size (grownCap W s.size 0 e)) ?_ (h _ _ _ (bytes_reads W e s hl) (bytes_below (Below.refl _ _) (Nat.le_refl _) e s))
  unfold execOp
  simp only [ho, hx]
  have := print_bytes src dst e hs hd he s W
  simp only [Sem.run_bind, this, Result.andThen_ok, Sem.run_pure]
end
theorem stepv_wrap (n b : Int) (h0 : 0 ≤ n) (h1 : n ≤ 131072) (hb : 0 ≤ b ∧ b ≤ 255) : (if (131072 : Int) < wrap64 (wrap64 (10 * n) + (b - 48) % 256) then 131072 else wrap64 (wrap64 (10 * n) + (b - 48) % 256)) = stepv n b := by
  unfold stepv wrap64
  omega
theorem ext_size (s : ByteArray) (a b : Nat) (h1 : a ≤ b) (h2 : b ≤ s.size) : (s.extract a b).size = b - a := by
  rw [ByteArray.size_extract]; omega
theorem ext_bt (s : ByteArray) (a b : Nat) (h1 : a ≤ b) (h2 : b ≤ s.size) (i : Nat) (hi : i < b - a) : bt (s.extract a b) i = bt s ((a + i : Nat) : Int) := by
  unfold bt
  have e1 : (i : Int).toNat < (s.extract a b).size := by rw [ext_size s a b h1 h2]; omega
  have e2 : ((a + i : Nat) : Int).toNat < s.size := by omega
  rw [dif_pos e1, dif_pos e2]
  simp only [Int.toNat_natCast]
  rw [ByteArray.getElem_extract]
set_option maxHeartbeats 4000000 in
set_option maxRecDepth 100000 in
theorem walk (s : ByteArray) (x y : Value) (g a b : Nat) (hab : a ≤ b) (hbs : b ≤ s.size) (hsz : s.size ≤ 1048576) (w : World) (hg : w.heap[g]? = some (.cells #[.string s, x, y] 66 (0, 0))) :
    Calls Tryd.prog 33 #[.pointer (some ⟨g, 0, none⟩), .agg #[.int .i64 (a : Int), .int .i64 (b : Int)]] w fun e w' => e = .returned (.int .i64 (val s a b)) ∧ Below w.heap.size w w' := by
  have hc0 : w.cell? ⟨g, 0, none⟩ = some (.string s) := (blk_cell hg 0).trans rfl
  have hlt := blk_lt hg
  have h0 : (0 : Int) ≤ (a : Int) := Int.natCast_nonneg _
  have h1 : (a : Int) ≤ (b : Int) := by omega
  have h2 : (0 : Int) ≤ (b : Int) := Int.natCast_nonneg _
  have h3 : (b : Int) ≤ (s.size : Int) := by omega
  have HB := Aside0.mk (Below.refl w.heap.size w)
  go_enter Tryd.func33, Tryd.ntmps33
  go_wp2_with (first
    | ((with_reducible refine gate_dst (N := 3) rfl ?_); refine box_event ?hg (N := 3) ?hd (cs := #[.int .i64 (a : Int), .int .i64 (b : Int)]) (t := 70) ?hr ?_; (case hd => rfl); (case hg => rfl); (case hr => first | (go_simp; done) | (go_simp; rfl)); intro g3 hg3 w_3 hbox hb; replace HB := Aside0.mk (below_step HB.out hb); have d0 : w_3.cell? ⟨g3, 0, none⟩ = some (.int .i64 (a : Int)) := (blk_cell hbox 0).trans rfl; have d1 : w_3.cell? ⟨g3, 1, none⟩ = some (.int .i64 (b : Int)) := (blk_cell hbox 1).trans rfl; replace hc0 := (hb.cell (p := ⟨g, 0, none⟩) hlt).trans hc0; clear hb hbox hg3))
  have hlt2 : g < w_3.drew.heap.size := World.block_lt_of_cell? w_3 _ hc0
  have hlt3 : g3 < w_3.drew.heap.size := World.block_lt_of_cell? w_3 _ d0
  replace HB := Aside0.mk (below_drew1 HB.out)
  -- region 2
  refine start_ (n := 12) (S := fun w' => w'.cell? ⟨g, 0, none⟩ = some (.string s) ∧ w'.cell? ⟨g3, 0, none⟩ = some (.int .i64 (a : Int)) ∧ w'.cell? ⟨g3, 1, none⟩ = some (.int .i64 (b : Int))) (ds := []) #[false, false, false, false, false, false, false, false, false, false, false, false] (by kernel_rfl) rfl rfl ⟨hc0, d0, d1⟩ (fun hHeld => ?_)
  generalize w_3.drew = w3 at HB hHeld hlt2 hlt3 ⊢
  refine pure_ (i := 0) (N := (some 8)) (v := ?_) (a' := ?_) #[true, false, false, false, false, false, false, false, false, false, false, false] rfl rfl (by kernel_rfl) (fun _ _ _ h => h) (Or.inl ⟨by rfl, ?_⟩) ?_ ?_
  rotate_left
  · intro w'
    go_simp
    with_reducible rfl
  rotate_left
  · simp only [Act.put, List.setIfInBounds_toArray, List.set_cons_zero, List.set_cons_succ, i64_w, i32_w]
    rfl
  refine pure_ (i := 1) (N := (some 9)) (v := ?_) (a' := ?_) #[true, true, false, false, false, false, false, false, false, false, false, false] rfl rfl (by kernel_rfl) (fun _ _ _ h => h) (Or.inl ⟨by rfl, ?_⟩) ?_ ?_
  rotate_left
  · intro w'
    go_simp
    with_reducible rfl
  rotate_left
  · simp only [Act.put, List.setIfInBounds_toArray, List.set_cons_zero, List.set_cons_succ, i64_w, i32_w]
    rfl
  refine pure_ (i := 2) (N := (some 10)) (v := ?_) (a' := ?_) #[true, true, true, false, false, false, false, false, false, false, false, false] rfl rfl (by kernel_rfl) (fun _ _ _ h => h) (Or.inl ⟨by rfl, ?_⟩) ?_ ?_
  rotate_left
  · intro w'
    go_simp
    with_reducible rfl
  rotate_left
  · simp only [Act.put, List.setIfInBounds_toArray, List.set_cons_zero, List.set_cons_succ, i64_w, i32_w]
    rfl
  refine take_ (i := 3) (N := (some 11)) (v := ?_) (a' := ?_) #[true, true, true, true, false, false, false, false, false, false, false, false] rfl rfl (by kernel_rfl) (fun _ _ _ h => h) (Or.inl ⟨by rfl, ?_⟩) hHeld ?_ ?_
  rotate_left
  · rintro w' ⟨s0, s1, s2⟩
    go_simp
    with_reducible rfl
  rotate_left
  · simp only [Act.put, List.setIfInBounds_toArray, List.set_cons_zero, List.set_cons_succ, i64_w, i32_w]
    rfl
  refine pure_ (i := 4) (N := (some 12)) (v := ?_) (a' := ?_) #[true, true, true, true, true, false, false, false, false, false, false, false] rfl rfl (by kernel_rfl) (fun _ _ _ h => h) (Or.inl ⟨by rfl, ?_⟩) ?_ ?_
  rotate_left
  · intro w'
    go_simp
    with_reducible rfl
  rotate_left
  · simp only [Act.put, List.setIfInBounds_toArray, List.set_cons_zero, List.set_cons_succ, i64_w, i32_w]
    rfl
  refine take_ (i := 5) (N := (some 13)) (v := ?_) (a' := ?_) #[true, true, true, true, true, true, false, false, false, false, false, false] rfl rfl (by kernel_rfl) (fun _ _ _ h => h) (Or.inl ⟨by rfl, ?_⟩) hHeld ?_ ?_
  rotate_left
  · rintro w' ⟨s0, s1, s2⟩
    go_simp
    with_reducible rfl
  rotate_left
  · simp only [Act.put, List.setIfInBounds_toArray, List.set_cons_zero, List.set_cons_succ, i64_w, i32_w]
    rfl
  refine pure_ (i := 6) (N := (some 14)) (v := ?_) (a' := ?_) #[true, true, true, true, true, true, true, false, false, false, false, false] rfl rfl (by kernel_rfl) (fun _ _ _ h => h) (Or.inl ⟨by rfl, ?_⟩) ?_ ?_
  rotate_left
  · intro w'
    go_simp
    with_reducible rfl
  rotate_left
  · simp only [Act.put, List.setIfInBounds_toArray, List.set_cons_zero, List.set_cons_succ, i64_w, i32_w]
    rfl
  refine take_ (i := 7) (N := (some 15)) (v := ?_) (a' := ?_) #[true, true, true, true, true, true, true, true, false, false, false, false] rfl rfl (by kernel_rfl) (fun _ _ _ h => h) (Or.inl ⟨by rfl, ?_⟩) hHeld ?_ ?_
  rotate_left
  · rintro w' ⟨s0, s1, s2⟩
    go_simp
    with_reducible rfl
  rotate_left
  · simp only [Act.put, List.setIfInBounds_toArray, List.set_cons_zero, List.set_cons_succ, i64_w, i32_w]
    rfl
  refine pure_ (i := 8) (N := (some 16)) (v := ?_) (a' := ?_) #[true, true, true, true, true, true, true, true, true, false, false, false] rfl rfl (by kernel_rfl) (fun _ _ _ h => h) (Or.inl ⟨by rfl, ?_⟩) ?_ ?_
  rotate_left
  · intro w'
    go_simp
    with_reducible rfl
  rotate_left
  · simp only [Act.put, List.setIfInBounds_toArray, List.set_cons_zero, List.set_cons_succ, i64_w, i32_w]
    rfl
  refine pure_ (i := 11) (N := (some 19)) (v := ?_) (a' := ?_) #[true, true, true, true, true, true, true, true, true, false, false, true] rfl rfl (by kernel_rfl) (fun _ _ _ h => h) (Or.inl ⟨by rfl, ?_⟩) ?_ ?_
  rotate_left
  · intro w'
    go_simp
    with_reducible rfl
  rotate_left
  · simp only [Act.put, List.setIfInBounds_toArray, List.set_cons_zero, List.set_cons_succ, i64_w, i32_w]
    rfl
  refine one_ (i := 9) (N := (some 17)) #[true, true, true, true, true, true, true, true, true, true, false, true] rfl rfl (by kernel_rfl) (by decide) (fun K hK => ?_)
  refine conv_step ?hw (x := .tmp 16) (s := s.extract a b) rfl ?ho ?hx Tryd.underlying9 Tryd.underlying49 Tryd.underlying5 (b - a) (ext_size s a b hab hbs) (by omega) ?_
  (case hw => rfl)
  (case ho => rfl)
  (case hx => rfl)
  intro g17 c17 w17 hr hb
  refine hK.out _ _ ⟨(hb.cell (p := ⟨g, 0, none⟩) hlt2).trans hHeld.1, (hb.cell (p := ⟨g3, 0, none⟩) hlt3).trans hHeld.2.1, (hb.cell (p := ⟨g3, 1, none⟩) hlt3).trans hHeld.2.2⟩ (fun hHeld => ?_)
  clear hK K
  have HR := Aside0.mk hr
  replace HB := Aside0.mk (below_step HB.out hb)
  clear hr hb
  refine pure_ (i := 10) (N := (some 18)) (v := ?_) (a' := ?_) #[true, true, true, true, true, true, true, true, true, true, true, true] rfl rfl (by kernel_rfl) (fun _ _ _ h => h) (Or.inl ⟨by rfl, ?_⟩) ?_ ?_
  rotate_left
  · intro w'
    go_simp
    with_reducible rfl
  rotate_left
  · simp only [Act.put, List.setIfInBounds_toArray, List.set_cons_zero, List.set_cons_succ, i64_w, i32_w]
    rfl
  refine done_ (by kernel_rfl) ?_
  try go_wp2
  -- end of region 2
  go_loopg [5, 19] (b - a + 1) (fun kq v5 v19 w' => ∃ (i : Nat) (n : Int), v5 = .int .i64 n ∧ v19 = .int .i64 (i : Int) ∧ Aside0 (kq + i = b - a + 1 ∧ i ≤ b - a) ∧ Aside0 (valf s (b - a - i) (a + i) n = val s a b) ∧ Aside0 (0 ≤ n ∧ n ≤ 131072) ∧ Aside0 (ReadsInt w' .u8 (some ⟨g17, 0, none⟩) (b - a) (bytesOf (s.extract a b))) ∧ Aside0 (Below w.heap.size w w'))
  case atStart => exact ⟨0, 0, rfl, rfl, ⟨by omega, by omega⟩, ⟨rfl⟩, ⟨by omega, by omega⟩, HR, HB⟩
  case round =>
    obtain ⟨i, n, rfl, rfl, hk, hv, hn, HR, HB⟩ := hrel
    by_cases c : i < b - a
    · have c1 : decide ((i : Int) < ((b - a : Nat) : Int)) = true := decide_eq_true (by omega)
      have c2 : (i : Int) < ((b - a : Nat) : Int) := by omega
      have c3 : (0 : Int) ≤ (i : Int) := by omega
      have hx' : wr.cell? ⟨g17, i, none⟩ = some (.int .u8 (bt s ((a + i : Nat) : Int))) := by
        obtain ⟨ad, e, hx⟩ := HR.out.2.2 (by omega)
        cases e
        have := hx i (by omega)
        rw [add_plain] at this
        rw [this]
        have e1 := rd_bytesOf (s.extract a b) (i : Int)
        rw [ext_bt s a b hab hbs i c] at e1
        unfold rd at e1
        simp only [Int.toNat_natCast] at e1
        rw [e1]
      have ew := stepv_wrap n (bt s ((a + i : Nat) : Int)) hn.out.1 hn.out.2 (bt_range _ _)
      have ew' := Aside0.mk ew
      have hr := Aside0.mk (stepv_range n (bt s ((a + i : Nat) : Int)) hn.out.1)
      clear ew
      by_cases c5 : (131072 : Int) < wrap64 (wrap64 (10 * n) + (bt s ((a + i : Nat) : Int) - 48) % 256)
      · have c6 := c5
        push_cast at c6
        go_wp2
        go_roundg (b - a - i)
        case measure => have := hk.out; omega
        case rel =>
          have hk' := hk.out
          have hv' := hv.out
          rw [show b - a - i = (b - a - (i + 1)) + 1 by omega] at hv'
          exact ⟨i + 1, stepv n (bt s ((a + i : Nat) : Int)), by rw [← ew'.out, if_pos c5], by go_num, ⟨by omega, by omega⟩, ⟨by rw [← hv']; rfl⟩, ⟨hr.out.1, hr.out.2⟩, HR, HB⟩
      · have c6 := c5
        push_cast at c6
        go_wp2
        go_roundg (b - a - i)
        case measure => have := hk.out; omega
        case rel =>
          have hk' := hk.out
          have hv' := hv.out
          rw [show b - a - i = (b - a - (i + 1)) + 1 by omega] at hv'
          exact ⟨i + 1, stepv n (bt s ((a + i : Nat) : Int)), by rw [← ew'.out, if_neg (Int.not_lt.mpr c5)]; rfl, by go_num, ⟨by omega, by omega⟩, ⟨by rw [← hv']; rfl⟩, ⟨hr.out.1, hr.out.2⟩, HR, HB⟩
    · have c1 : decide ((i : Int) < ((b - a : Nat) : Int)) = false := decide_eq_false (by omega)
      go_wp2
      go_ret
      have hk' := hk.out
      have e0 : b - a - i = 0 := by omega
      have hv' := hv.out
      rw [e0] at hv'
      exact ⟨by rw [← hv']; rfl, HB.out⟩
end Go.Proofs.YtmcidodpnhkdfaaDoor.ValWalk
