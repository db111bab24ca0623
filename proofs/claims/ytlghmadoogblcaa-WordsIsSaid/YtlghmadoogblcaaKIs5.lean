/- The row of WordsIs. -/
import Derived.Test.YtlghmadoogblcaaKIs4
section
namespace Go.Proofs.Ytlghmadoogblcaa.RefIs
open Go Go.RowKit Go.Proofs.YtlghmadoogblcaaW.PrintWords Go.Proofs.YtlghmadoogblcaaW.PrintLast Go.Proofs.YtlghmadoogblcaaW.PrintMore Go.Proofs.Ytlghmadoogblcaa.PW Go.Proofs.Ytlghmadoogblcaa.Book Go.Proofs.Ytlghmadoogblcaa.Lent Go.Proofs.Ytlghmadoogblcaa.Pile Go.Proofs.Ytlghmadoogblcaa.Rows4 Go.Proofs.Ytlghmadoogblcaa.IsWalk
set_option linter.unusedVariables false
set_option linter.unusedSimpArgs false
def says (b0 b1 b2 b3 : Nat → Bool) (i : Nat) : Int := (if b0 i then 1 else 0) + (if b1 i then 2 else 0) + (if b2 i then 4 else 0) + (if b3 i then 8 else 0)
theorem c4i {W : World} {b L : Nat} {m : Int} {t : TypeId} {A0 A1 A2 A3 : Option Addr} {X0 X1 X2 X3 : List Int} {c0 c1 c2 c3 : Nat} (x0 : X0.length = L) (x1 : X1.length = L) (x2 : X2.length = L) (x3 : X3.length = L) (hb : W.heap[b]? = some (.cells #[.int .i64 m, .slice A0 L c0, .int .i64 m, .slice A1 L c1, .int .i64 m, .slice A2 L c2, .int .i64 m, .slice A3 L c3] t (0, 0)))
    (h0 : Kd.C (Kd.int .u64) W A0 X0.length X0) (l0 : X0.length ≤ c0) (h1 : Kd.C (Kd.int .u64) W A1 X1.length X1) (l1 : X1.length ≤ c1) (h2 : Kd.C (Kd.int .u64) W A2 X2.length X2) (l2 : X2.length ≤ c2) (h3 : Kd.C (Kd.int .u64) W A3 X3.length X3) (l3 : X3.length ≤ c3) : Kd.C k31 W (some ⟨b, 0, none⟩) 4 [⟨m, X0⟩, ⟨m, X1⟩, ⟨m, X2⟩, ⟨m, X3⟩] :=
  c4 (by rw [x0, x1, x2, x3]; exact hb) h0 l0 h1 l1 h2 l2 h3 l3
theorem leaf {w W : World} {b r g m c : Nat} {n y s : Int} {cs : Array Value} {b0 b1 b2 b3 : Nat → Bool} (P : I0 w W b r cs)
    (HV : W.ownsRow w.heap.size 4 1 (.slice (some ⟨g, 0, none⟩) m c) m (bools (RefPlain.doneTo m y.toNat (fun i => decide (says b0 b1 b2 b3 i = n)) (fun _ => false)))) (h0 : 0 ≤ y) (hy : y.toNat < m) (s' : Int) (hs' : s = s') (hs : says b0 b1 b2 b3 y.toNat = s) :
    Aside0 (I0 w (W.setCell ⟨g, y.toNat, none⟩ (.bool (s' == n))) b r cs) ∧ Aside0 ((W.setCell ⟨g, y.toNat, none⟩ (.bool (s' == n))).ownsRow w.heap.size 4 1 (.slice (some ⟨g, 0, none⟩) m c) m (bools (RefPlain.doneTo m (y + 1).toNat (fun i => decide (says b0 b1 b2 b3 i = n)) (fun _ => false)))) := by
  subst hs'
  obtain ⟨hw, _, hc⟩ := own_block HV g rfl
  have h2 := own_put_bool rfl HV y.toNat (s == n)
  have e3 : (s == n) = (fun i => decide (says b0 b1 b2 b3 i = n)) y.toNat := by simp only [hs]; rfl
  have e4 : (RefPlain.doneTo m y.toNat (fun i => decide (says b0 b1 b2 b3 i = n)) (fun _ => false)).set y.toNat (s == n) = RefPlain.doneTo m (y.toNat + 1) (fun i => decide (says b0 b1 b2 b3 i = n)) (fun _ => false) := by rw [e3]; exact RefPlain.doneTo_set _ _ hy
  rw [e4] at h2
  have far : ∀ k, k ≠ g → (W.setCell ⟨g, y.toNat, none⟩ (.bool (s == n))).heap[k]? = W.heap[k]? := fun k hk => Below.heap_setCell _ ⟨g, y.toNat, none⟩ _ _ hk
  have ne : ∀ (k : Nat) (cs : Array Value) (t : TypeId), W.heap[k]? = some (.cells cs t (0, 0)) → t ≠ 4 → k ≠ g := by
    rintro k cs t hk ht rfl
    rw [hk] at hc
    injection hc with hc
    injection hc with _ hc
    exact ht hc
  refine ⟨⟨⟨below_set P.be hw, (far _ (ne _ _ _ P.bx (by decide))).trans P.bx, (far _ (ne _ _ _ P.rx (by decide))).trans P.rx, P.ge, P.re, P.ne⟩⟩, ⟨?_⟩⟩
  rw [show (y + 1).toNat = y.toNat + 1 by omega]
  exact h2
set_option maxHeartbeats 8000000 in
set_option maxRecDepth 100000 in
theorem is_bad (k : Nat) (n0 n1 n2 n3 n er : Int) (A0 A1 A2 A3 : Option Addr) (X0 X1 X2 X3 : List Int) (c0 c1 c2 c3 : Nat) (w : World) (hC0 : Kd.C (Kd.int .u64) w A0 X0.length X0) (hl0 : X0.length ≤ c0) (hC1 : Kd.C (Kd.int .u64) w A1 X1.length X1) (hl1 : X1.length ≤ c1) (hC2 : Kd.C (Kd.int .u64) w A2 X2.length X2) (hl2 : X2.length ≤ c2) (hC3 : Kd.C (Kd.int .u64) w A3 X3.length X3) (hl3 : X3.length ≤ c3) (hf : PF.vivariumref02_fits.f k [⟨n0, X0⟩, ⟨n1, X1⟩, ⟨n2, X2⟩, ⟨n3, X3⟩] = some er) (her : er ≠ 0) :
    Calls Try.prog 35 #[.agg #[.int .i64 n0, .slice A0 X0.length c0, .int .i64 n1, .slice A1 X1.length c1, .int .i64 n2, .slice A2 X2.length c2, .int .i64 n3, .slice A3 X3.length c3], .int .i64 n] w fun e w' => e = .returned (.tuple #[.agg #[.int .i64 0, .slice none 0 0], .int .i64 er]) ∧ Below w.heap.size w w' := by
  have HC0 := Aside0.mk hC0; have HL0 := Aside0.mk hl0; have HC1 := Aside0.mk hC1; have HL1 := Aside0.mk hl1; have HC2 := Aside0.mk hC2; have HL2 := Aside0.mk hl2; have HC3 := Aside0.mk hC3; have HL3 := Aside0.mk hl3
  have HF := Aside0.mk hf
  have hu := Try.underlying31
  have hu4 := Try.underlying54
  have de : ((er : Int) != 0) = true := by simpa using her
  clear hC0 hl0 hC1 hl1 hC2 hl2 hC3 hl3 hf her
  go_enter Try.func35, Try.ntmps35
  go_wp2_with (first
    | ((with_reducible refine gate_dst (N := 2) rfl ?_); refine box_event ?hg2 (N := 2) ?hd2 (cs := #[.int .i64 n0, .slice A0 X0.length c0, .int .i64 n1, .slice A1 X1.length c1, .int .i64 n2, .slice A2 X2.length c2, .int .i64 n3, .slice A3 X3.length c3]) (t := 54) ?hr2 ?_; (case hd2 => rfl); (case hg2 => rfl); (case hr2 => first | (go_simp; done) | (go_simp; rfl)); intro b gb W1 x1 hb1; have hge : w.heap.size ≤ b := (by omega); clear gb)
    | ((with_reducible refine gate_dst (N := 4) rfl ?_); refine box_event ?hg4 (N := 4) ?hd4 (cs := #[.int .i64 0, .slice none 0 0]) (t := 31) ?hr4 ?_; (case hd4 => rfl); (case hg4 => rfl); (case hr4 => first | (go_simp; done) | (go_simp; rfl)); intro r gr W2 x2 hb2; have P2 : I0 w W2 b r #[.int .i64 n0, .slice A0 X0.length c0, .int .i64 n1, .slice A1 X1.length c1, .int .i64 n2, .slice A2 X2.length c2, .int .i64 n3, .slice A3 X3.length c3] := ⟨chain_ hb1 hb2, blk_below x1 hb2, x2, hge, (by have := hb1.size; omega), (by have := blk_lt x1; omega)⟩; have P := Aside0.mk P2; clear P2 x1 x2 hb1 hb2 gr; have x_0 : (W2).cell? ⟨b, 0, none⟩ = some (.int .i64 n0) := (blk_cell P.out.bx 0).trans rfl; have x_1 : (W2).cell? ⟨b, 1, none⟩ = some (.slice A0 X0.length c0) := (blk_cell P.out.bx 1).trans rfl; have x_2 : (W2).cell? ⟨b, 2, none⟩ = some (.int .i64 n1) := (blk_cell P.out.bx 2).trans rfl; have x_3 : (W2).cell? ⟨b, 3, none⟩ = some (.slice A1 X1.length c1) := (blk_cell P.out.bx 3).trans rfl; have x_4 : (W2).cell? ⟨b, 4, none⟩ = some (.int .i64 n2) := (blk_cell P.out.bx 4).trans rfl; have x_5 : (W2).cell? ⟨b, 5, none⟩ = some (.slice A2 X2.length c2) := (blk_cell P.out.bx 5).trans rfl; have x_6 : (W2).cell? ⟨b, 6, none⟩ = some (.int .i64 n3) := (blk_cell P.out.bx 6).trans rfl; have x_7 : (W2).cell? ⟨b, 7, none⟩ = some (.slice A3 X3.length c3) := (blk_cell P.out.bx 7).trans rfl)
    | (go_at_call 54; have P1 := P.out.on (below_alloc (Below.refl _ _) (.cells #[.int .i64 n0, .slice A0 X0.length c0, .int .i64 n1, .slice A1 X1.length c1, .int .i64 n2, .slice A2 X2.length c2, .int .i64 n3, .slice A3 X3.length c3] 31)); have h_ : Calls Try.prog 54 #[.slice (some ⟨W2.heap.size, 0, none⟩) 4 4] (W2.alloc (.cells #[.int .i64 n0, .slice A0 X0.length c0, .int .i64 n1, .slice A1 X1.length c1, .int .i64 n2, .slice A2 X2.length c2, .int .i64 n3, .slice A3 X3.length c3] 31)) (fun e w' => e = .returned (.int .i64 er) ∧ Below (W2.alloc (.cells #[.int .i64 n0, .slice A0 X0.length c0, .int .i64 n1, .slice A1 X1.length c1, .int .i64 n2, .slice A2 X2.length c2, .int .i64 n3, .slice A3 X3.length c3] 31)).heap.size (W2.alloc (.cells #[.int .i64 n0, .slice A0 X0.length c0, .int .i64 n1, .slice A1 X1.length c1, .int .i64 n2, .slice A2 X2.length c2, .int .i64 n3, .slice A3 X3.length c3] 31)) w') := PF.vivariumref02_fits.calls k (some ⟨W2.heap.size, 0, none⟩) 4 [⟨n0, X0⟩, ⟨n1, X1⟩, ⟨n2, X2⟩, ⟨n3, X3⟩] er (W2.alloc (.cells #[.int .i64 n0, .slice A0 X0.length c0, .int .i64 n1, .slice A1 X1.length c1, .int .i64 n2, .slice A2 X2.length c2, .int .i64 n3, .slice A3 X3.length c3] 31)) (c4 (blk_new W2 _) (Kd.C_below HC0.out P1.be) HL0.out (Kd.C_below HC1.out P1.be) HL1.out (Kd.C_below HC2.out P1.be) HL2.out (Kd.C_below HC3.out P1.be) HL3.out) (Nat.le_refl 4) HF.out; (with_reducible refine h_.mono ?_); clear h_; rintro er_ v1 ⟨rfl, hb⟩; have P2 := P1.on hb; clear hb P P1; have P := Aside0.mk P2; clear P2 x_0 x_1 x_2 x_3 x_4 x_5 x_6 x_7; have z0_ := (blk_cell P.out.rx 0).trans (show ((#[Value.int .i64 0, Value.slice none 0 0] : Array Value)[0]?) = some (.int .i64 0) from rfl); have z1_ := (blk_cell P.out.rx 1).trans (show ((#[Value.int .i64 0, Value.slice none 0 0] : Array Value)[1]?) = some (.slice none 0 0) from rfl); have f0_ := blk_frozen P.out.rx 0; have f1_ := blk_frozen P.out.rx 1))
  exact bodyPost_ret (results_ct rfl _ _ r 31 #[.int .i64 0, .slice none 0 0] (0, 0) _ rfl (blk_put (cs := #[.int .i64 0, .slice none 0 0]) (blk_put P.out.rx 0 _ rfl) 1 _ rfl) hu rfl (by kernel_rfl)) rfl ⟨rfl, below_set (below_set P.out.be P.out.re) P.out.re⟩
set_option maxHeartbeats 8000000 in
set_option maxRecDepth 100000 in
theorem is_arg (k : Nat) (n0 n1 n2 n3 n : Int) (A0 A1 A2 A3 : Option Addr) (X0 X1 X2 X3 : List Int) (c0 c1 c2 c3 : Nat) (w : World) (hC0 : Kd.C (Kd.int .u64) w A0 X0.length X0) (hl0 : X0.length ≤ c0) (hC1 : Kd.C (Kd.int .u64) w A1 X1.length X1) (hl1 : X1.length ≤ c1) (hC2 : Kd.C (Kd.int .u64) w A2 X2.length X2) (hl2 : X2.length ≤ c2) (hC3 : Kd.C (Kd.int .u64) w A3 X3.length X3) (hl3 : X3.length ≤ c3) (hf : PF.vivariumref02_fits.f k [⟨n0, X0⟩, ⟨n1, X1⟩, ⟨n2, X2⟩, ⟨n3, X3⟩] = some 0) (hn : n < 0 ∨ n > 15) :
    Calls Try.prog 35 #[.agg #[.int .i64 n0, .slice A0 X0.length c0, .int .i64 n1, .slice A1 X1.length c1, .int .i64 n2, .slice A2 X2.length c2, .int .i64 n3, .slice A3 X3.length c3], .int .i64 n] w fun e w' => e = .returned (.tuple #[.agg #[.int .i64 0, .slice none 0 0], .int .i64 2]) ∧ Below w.heap.size w w' := by
  have HC0 := Aside0.mk hC0; have HL0 := Aside0.mk hl0; have HC1 := Aside0.mk hC1; have HL1 := Aside0.mk hl1; have HC2 := Aside0.mk hC2; have HL2 := Aside0.mk hl2; have HC3 := Aside0.mk hC3; have HL3 := Aside0.mk hl3
  have HF := Aside0.mk hf
  have hu := Try.underlying31
  have hu4 := Try.underlying54
  clear hC0 hl0 hC1 hl1 hC2 hl2 hC3 hl3 hf
  by_cases h0 : n < 0
  · go_enter Try.func35, Try.ntmps35
    go_wp2_with (first
      | ((with_reducible refine gate_dst (N := 2) rfl ?_); refine box_event ?hg2 (N := 2) ?hd2 (cs := #[.int .i64 n0, .slice A0 X0.length c0, .int .i64 n1, .slice A1 X1.length c1, .int .i64 n2, .slice A2 X2.length c2, .int .i64 n3, .slice A3 X3.length c3]) (t := 54) ?hr2 ?_; (case hd2 => rfl); (case hg2 => rfl); (case hr2 => first | (go_simp; done) | (go_simp; rfl)); intro b gb W1 x1 hb1; have hge : w.heap.size ≤ b := (by omega); clear gb)
      | ((with_reducible refine gate_dst (N := 4) rfl ?_); refine box_event ?hg4 (N := 4) ?hd4 (cs := #[.int .i64 0, .slice none 0 0]) (t := 31) ?hr4 ?_; (case hd4 => rfl); (case hg4 => rfl); (case hr4 => first | (go_simp; done) | (go_simp; rfl)); intro r gr W2 x2 hb2; have P2 : I0 w W2 b r #[.int .i64 n0, .slice A0 X0.length c0, .int .i64 n1, .slice A1 X1.length c1, .int .i64 n2, .slice A2 X2.length c2, .int .i64 n3, .slice A3 X3.length c3] := ⟨chain_ hb1 hb2, blk_below x1 hb2, x2, hge, (by have := hb1.size; omega), (by have := blk_lt x1; omega)⟩; have P := Aside0.mk P2; clear P2 x1 x2 hb1 hb2 gr; have x_0 : (W2).cell? ⟨b, 0, none⟩ = some (.int .i64 n0) := (blk_cell P.out.bx 0).trans rfl; have x_1 : (W2).cell? ⟨b, 1, none⟩ = some (.slice A0 X0.length c0) := (blk_cell P.out.bx 1).trans rfl; have x_2 : (W2).cell? ⟨b, 2, none⟩ = some (.int .i64 n1) := (blk_cell P.out.bx 2).trans rfl; have x_3 : (W2).cell? ⟨b, 3, none⟩ = some (.slice A1 X1.length c1) := (blk_cell P.out.bx 3).trans rfl; have x_4 : (W2).cell? ⟨b, 4, none⟩ = some (.int .i64 n2) := (blk_cell P.out.bx 4).trans rfl; have x_5 : (W2).cell? ⟨b, 5, none⟩ = some (.slice A2 X2.length c2) := (blk_cell P.out.bx 5).trans rfl; have x_6 : (W2).cell? ⟨b, 6, none⟩ = some (.int .i64 n3) := (blk_cell P.out.bx 6).trans rfl; have x_7 : (W2).cell? ⟨b, 7, none⟩ = some (.slice A3 X3.length c3) := (blk_cell P.out.bx 7).trans rfl)
      | (go_at_call 54; have P1 := P.out.on (below_alloc (Below.refl _ _) (.cells #[.int .i64 n0, .slice A0 X0.length c0, .int .i64 n1, .slice A1 X1.length c1, .int .i64 n2, .slice A2 X2.length c2, .int .i64 n3, .slice A3 X3.length c3] 31)); have h_ : Calls Try.prog 54 #[.slice (some ⟨W2.heap.size, 0, none⟩) 4 4] (W2.alloc (.cells #[.int .i64 n0, .slice A0 X0.length c0, .int .i64 n1, .slice A1 X1.length c1, .int .i64 n2, .slice A2 X2.length c2, .int .i64 n3, .slice A3 X3.length c3] 31)) (fun e w' => e = .returned (.int .i64 0) ∧ Below (W2.alloc (.cells #[.int .i64 n0, .slice A0 X0.length c0, .int .i64 n1, .slice A1 X1.length c1, .int .i64 n2, .slice A2 X2.length c2, .int .i64 n3, .slice A3 X3.length c3] 31)).heap.size (W2.alloc (.cells #[.int .i64 n0, .slice A0 X0.length c0, .int .i64 n1, .slice A1 X1.length c1, .int .i64 n2, .slice A2 X2.length c2, .int .i64 n3, .slice A3 X3.length c3] 31)) w') := PF.vivariumref02_fits.calls k (some ⟨W2.heap.size, 0, none⟩) 4 [⟨n0, X0⟩, ⟨n1, X1⟩, ⟨n2, X2⟩, ⟨n3, X3⟩] 0 (W2.alloc (.cells #[.int .i64 n0, .slice A0 X0.length c0, .int .i64 n1, .slice A1 X1.length c1, .int .i64 n2, .slice A2 X2.length c2, .int .i64 n3, .slice A3 X3.length c3] 31)) (c4 (blk_new W2 _) (Kd.C_below HC0.out P1.be) HL0.out (Kd.C_below HC1.out P1.be) HL1.out (Kd.C_below HC2.out P1.be) HL2.out (Kd.C_below HC3.out P1.be) HL3.out) (Nat.le_refl 4) HF.out; (with_reducible refine h_.mono ?_); clear h_; rintro er_ v1 ⟨rfl, hb⟩; have P2 := P1.on hb; clear hb P P1; have P := Aside0.mk P2; clear P2 x_0 x_1 x_2 x_3 x_4 x_5 x_6 x_7; have z0_ := (blk_cell P.out.rx 0).trans (show ((#[Value.int .i64 0, Value.slice none 0 0] : Array Value)[0]?) = some (.int .i64 0) from rfl); have z1_ := (blk_cell P.out.rx 1).trans (show ((#[Value.int .i64 0, Value.slice none 0 0] : Array Value)[1]?) = some (.slice none 0 0) from rfl); have f0_ := blk_frozen P.out.rx 0; have f1_ := blk_frozen P.out.rx 1))
    exact bodyPost_ret (results_ct rfl _ _ r 31 #[.int .i64 0, .slice none 0 0] (0, 0) _ rfl (blk_put (cs := #[.int .i64 0, .slice none 0 0]) (blk_put P.out.rx 0 _ rfl) 1 _ rfl) hu rfl (by kernel_rfl)) rfl ⟨rfl, below_set (below_set P.out.be P.out.re) P.out.re⟩
  · have h1 : n > 15 := by omega
    go_enter Try.func35, Try.ntmps35
    go_wp2_with (first
      | ((with_reducible refine gate_dst (N := 2) rfl ?_); refine box_event ?hg2 (N := 2) ?hd2 (cs := #[.int .i64 n0, .slice A0 X0.length c0, .int .i64 n1, .slice A1 X1.length c1, .int .i64 n2, .slice A2 X2.length c2, .int .i64 n3, .slice A3 X3.length c3]) (t := 54) ?hr2 ?_; (case hd2 => rfl); (case hg2 => rfl); (case hr2 => first | (go_simp; done) | (go_simp; rfl)); intro b gb W1 x1 hb1; have hge : w.heap.size ≤ b := (by omega); clear gb)
      | ((with_reducible refine gate_dst (N := 4) rfl ?_); refine box_event ?hg4 (N := 4) ?hd4 (cs := #[.int .i64 0, .slice none 0 0]) (t := 31) ?hr4 ?_; (case hd4 => rfl); (case hg4 => rfl); (case hr4 => first | (go_simp; done) | (go_simp; rfl)); intro r gr W2 x2 hb2; have P2 : I0 w W2 b r #[.int .i64 n0, .slice A0 X0.length c0, .int .i64 n1, .slice A1 X1.length c1, .int .i64 n2, .slice A2 X2.length c2, .int .i64 n3, .slice A3 X3.length c3] := ⟨chain_ hb1 hb2, blk_below x1 hb2, x2, hge, (by have := hb1.size; omega), (by have := blk_lt x1; omega)⟩; have P := Aside0.mk P2; clear P2 x1 x2 hb1 hb2 gr; have x_0 : (W2).cell? ⟨b, 0, none⟩ = some (.int .i64 n0) := (blk_cell P.out.bx 0).trans rfl; have x_1 : (W2).cell? ⟨b, 1, none⟩ = some (.slice A0 X0.length c0) := (blk_cell P.out.bx 1).trans rfl; have x_2 : (W2).cell? ⟨b, 2, none⟩ = some (.int .i64 n1) := (blk_cell P.out.bx 2).trans rfl; have x_3 : (W2).cell? ⟨b, 3, none⟩ = some (.slice A1 X1.length c1) := (blk_cell P.out.bx 3).trans rfl; have x_4 : (W2).cell? ⟨b, 4, none⟩ = some (.int .i64 n2) := (blk_cell P.out.bx 4).trans rfl; have x_5 : (W2).cell? ⟨b, 5, none⟩ = some (.slice A2 X2.length c2) := (blk_cell P.out.bx 5).trans rfl; have x_6 : (W2).cell? ⟨b, 6, none⟩ = some (.int .i64 n3) := (blk_cell P.out.bx 6).trans rfl; have x_7 : (W2).cell? ⟨b, 7, none⟩ = some (.slice A3 X3.length c3) := (blk_cell P.out.bx 7).trans rfl)
      | (go_at_call 54; have P1 := P.out.on (below_alloc (Below.refl _ _) (.cells #[.int .i64 n0, .slice A0 X0.length c0, .int .i64 n1, .slice A1 X1.length c1, .int .i64 n2, .slice A2 X2.length c2, .int .i64 n3, .slice A3 X3.length c3] 31)); have h_ : Calls Try.prog 54 #[.slice (some ⟨W2.heap.size, 0, none⟩) 4 4] (W2.alloc (.cells #[.int .i64 n0, .slice A0 X0.length c0, .int .i64 n1, .slice A1 X1.length c1, .int .i64 n2, .slice A2 X2.length c2, .int .i64 n3, .slice A3 X3.length c3] 31)) (fun e w' => e = .returned (.int .i64 0) ∧ Below (W2.alloc (.cells #[.int .i64 n0, .slice A0 X0.length c0, .int .i64 n1, .slice A1 X1.length c1, .int .i64 n2, .slice A2 X2.length c2, .int .i64 n3, .slice A3 X3.length c3] 31)).heap.size (W2.alloc (.cells #[.int .i64 n0, .slice A0 X0.length c0, .int .i64 n1, .slice A1 X1.length c1, .int .i64 n2, .slice A2 X2.length c2, .int .i64 n3, .slice A3 X3.length c3] 31)) w') := PF.vivariumref02_fits.calls k (some ⟨W2.heap.size, 0, none⟩) 4 [⟨n0, X0⟩, ⟨n1, X1⟩, ⟨n2, X2⟩, ⟨n3, X3⟩] 0 (W2.alloc (.cells #[.int .i64 n0, .slice A0 X0.length c0, .int .i64 n1, .slice A1 X1.length c1, .int .i64 n2, .slice A2 X2.length c2, .int .i64 n3, .slice A3 X3.length c3] 31)) (c4 (blk_new W2 _) (Kd.C_below HC0.out P1.be) HL0.out (Kd.C_below HC1.out P1.be) HL1.out (Kd.C_below HC2.out P1.be) HL2.out (Kd.C_below HC3.out P1.be) HL3.out) (Nat.le_refl 4) HF.out; (with_reducible refine h_.mono ?_); clear h_; rintro er_ v1 ⟨rfl, hb⟩; have P2 := P1.on hb; clear hb P P1; have P := Aside0.mk P2; clear P2 x_0 x_1 x_2 x_3 x_4 x_5 x_6 x_7; have z0_ := (blk_cell P.out.rx 0).trans (show ((#[Value.int .i64 0, Value.slice none 0 0] : Array Value)[0]?) = some (.int .i64 0) from rfl); have z1_ := (blk_cell P.out.rx 1).trans (show ((#[Value.int .i64 0, Value.slice none 0 0] : Array Value)[1]?) = some (.slice none 0 0) from rfl); have f0_ := blk_frozen P.out.rx 0; have f1_ := blk_frozen P.out.rx 1))
    exact bodyPost_ret (results_ct rfl _ _ r 31 #[.int .i64 0, .slice none 0 0] (0, 0) _ rfl (blk_put (cs := #[.int .i64 0, .slice none 0 0]) (blk_put P.out.rx 0 _ rfl) 1 _ rfl) hu rfl (by kernel_rfl)) rfl ⟨rfl, below_set (below_set P.out.be P.out.re) P.out.re⟩
set_option maxHeartbeats 8000000 in
set_option maxRecDepth 100000 in
theorem is_ok (k m : Nat) (n : Int) (A0 A1 A2 A3 : Option Addr) (X0 X1 X2 X3 V : List Int) (c0 c1 c2 c3 L : Nat) (b0 b1 b2 b3 : Nat → Bool) (w : World) (hC0 : Kd.C (Kd.int .u64) w A0 X0.length X0) (hl0 : X0.length ≤ c0) (hC1 : Kd.C (Kd.int .u64) w A1 X1.length X1) (hl1 : X1.length ≤ c1) (hC2 : Kd.C (Kd.int .u64) w A2 X2.length X2) (hl2 : X2.length ≤ c2) (hC3 : Kd.C (Kd.int .u64) w A3 X3.length X3) (hl3 : X3.length ≤ c3) (hf : PF.vivariumref02_fits.f k [⟨(m : Int), X0⟩, ⟨(m : Int), X1⟩, ⟨(m : Int), X2⟩, ⟨(m : Int), X3⟩] = some 0) (h0 : 0 ≤ n) (h15 : n ≤ 15) (hm : m ≤ 65538)
    (hx0 : X0.length = L) (hx1 : X1.length = L) (hx2 : X2.length = L) (hx3 : X3.length = L) (hb0 : ∀ i : Nat, i < m → PB.vivariumref02_bit.f (m : Int) X0 i = some (b0 i)) (hb1 : ∀ i : Nat, i < m → PB.vivariumref02_bit.f (m : Int) X1 i = some (b1 i)) (hb2 : ∀ i : Nat, i < m → PB.vivariumref02_bit.f (m : Int) X2 i = some (b2 i)) (hb3 : ∀ i : Nat, i < m → PB.vivariumref02_bit.f (m : Int) X3 i = some (b3 i)) (hV : PB.vivariumref02_Row.f k (RefPlain.doneTo m m (fun i => decide (says b0 b1 b2 b3 i = n)) (fun _ => false)) = some ((m : Int), V)) :
    Calls Try.prog 35 #[.agg #[.int .i64 (m : Int), .slice A0 L c0, .int .i64 (m : Int), .slice A1 L c1, .int .i64 (m : Int), .slice A2 L c2, .int .i64 (m : Int), .slice A3 L c3], .int .i64 n] w fun e w' => ∃ v, e = .returned (.tuple #[.agg #[.int .i64 (m : Int), v], .int .i64 0]) ∧ w'.ownsRow w.heap.size 22 1 v V.length (nums .u64 V) ∧ Below w.heap.size w w' := by
  have HC0 := Aside0.mk hC0; have HL0 := Aside0.mk hl0; have HC1 := Aside0.mk hC1; have HL1 := Aside0.mk hl1; have HC2 := Aside0.mk hC2; have HL2 := Aside0.mk hl2; have HC3 := Aside0.mk hC3; have HL3 := Aside0.mk hl3
  have HF := Aside0.mk hf; have HVV := Aside0.mk hV
  have HX0 := Aside0.mk hx0; have HB0 := Aside0.mk hb0; have HX1 := Aside0.mk hx1; have HB1 := Aside0.mk hb1; have HX2 := Aside0.mk hx2; have HB2 := Aside0.mk hb2; have HX3 := Aside0.mk hx3; have HB3 := Aside0.mk hb3
  have hu := Try.underlying31
  have hu4 := Try.underlying54
  clear hC0 hl0 hC1 hl1 hC2 hl2 hC3 hl3 hf hV hx0 hx1 hx2 hx3 hb0 hb1 hb2 hb3
  go_enter Try.func35, Try.ntmps35
  go_wp2_with (first
    | ((with_reducible refine gate_dst (N := 2) rfl ?_); refine box_event ?hg2 (N := 2) ?hd2 (cs := #[.int .i64 (m : Int), .slice A0 L c0, .int .i64 (m : Int), .slice A1 L c1, .int .i64 (m : Int), .slice A2 L c2, .int .i64 (m : Int), .slice A3 L c3]) (t := 54) ?hr2 ?_; (case hd2 => rfl); (case hg2 => rfl); (case hr2 => first | (go_simp; done) | (go_simp; rfl)); intro b gb W1 x1 hb1; have hge : w.heap.size ≤ b := (by omega); clear gb)
    | ((with_reducible refine gate_dst (N := 4) rfl ?_); refine box_event ?hg4 (N := 4) ?hd4 (cs := #[.int .i64 0, .slice none 0 0]) (t := 31) ?hr4 ?_; (case hd4 => rfl); (case hg4 => rfl); (case hr4 => first | (go_simp; done) | (go_simp; rfl)); intro r gr W2 x2 hb2; have P2 : I0 w W2 b r #[.int .i64 (m : Int), .slice A0 L c0, .int .i64 (m : Int), .slice A1 L c1, .int .i64 (m : Int), .slice A2 L c2, .int .i64 (m : Int), .slice A3 L c3] := ⟨chain_ hb1 hb2, blk_below x1 hb2, x2, hge, (by have := hb1.size; omega), (by have := blk_lt x1; omega)⟩; have P := Aside0.mk P2; clear P2 x1 x2 hb1 hb2 gr; have x_0 : (W2).cell? ⟨b, 0, none⟩ = some (.int .i64 (m : Int)) := (blk_cell P.out.bx 0).trans rfl; have x_1 : (W2).cell? ⟨b, 1, none⟩ = some (.slice A0 L c0) := (blk_cell P.out.bx 1).trans rfl; have x_2 : (W2).cell? ⟨b, 2, none⟩ = some (.int .i64 (m : Int)) := (blk_cell P.out.bx 2).trans rfl; have x_3 : (W2).cell? ⟨b, 3, none⟩ = some (.slice A1 L c1) := (blk_cell P.out.bx 3).trans rfl; have x_4 : (W2).cell? ⟨b, 4, none⟩ = some (.int .i64 (m : Int)) := (blk_cell P.out.bx 4).trans rfl; have x_5 : (W2).cell? ⟨b, 5, none⟩ = some (.slice A2 L c2) := (blk_cell P.out.bx 5).trans rfl; have x_6 : (W2).cell? ⟨b, 6, none⟩ = some (.int .i64 (m : Int)) := (blk_cell P.out.bx 6).trans rfl; have x_7 : (W2).cell? ⟨b, 7, none⟩ = some (.slice A3 L c3) := (blk_cell P.out.bx 7).trans rfl)
    | (go_at_call 54; have P1 := P.out.on (below_alloc (Below.refl _ _) (.cells #[.int .i64 (m : Int), .slice A0 L c0, .int .i64 (m : Int), .slice A1 L c1, .int .i64 (m : Int), .slice A2 L c2, .int .i64 (m : Int), .slice A3 L c3] 31)); have h_ : Calls Try.prog 54 #[.slice (some ⟨W2.heap.size, 0, none⟩) 4 4] (W2.alloc (.cells #[.int .i64 (m : Int), .slice A0 L c0, .int .i64 (m : Int), .slice A1 L c1, .int .i64 (m : Int), .slice A2 L c2, .int .i64 (m : Int), .slice A3 L c3] 31)) (fun e w' => e = .returned (.int .i64 0) ∧ Below (W2.alloc (.cells #[.int .i64 (m : Int), .slice A0 L c0, .int .i64 (m : Int), .slice A1 L c1, .int .i64 (m : Int), .slice A2 L c2, .int .i64 (m : Int), .slice A3 L c3] 31)).heap.size (W2.alloc (.cells #[.int .i64 (m : Int), .slice A0 L c0, .int .i64 (m : Int), .slice A1 L c1, .int .i64 (m : Int), .slice A2 L c2, .int .i64 (m : Int), .slice A3 L c3] 31)) w') := PF.vivariumref02_fits.calls k (some ⟨W2.heap.size, 0, none⟩) 4 [⟨(m : Int), X0⟩, ⟨(m : Int), X1⟩, ⟨(m : Int), X2⟩, ⟨(m : Int), X3⟩] 0 (W2.alloc (.cells #[.int .i64 (m : Int), .slice A0 L c0, .int .i64 (m : Int), .slice A1 L c1, .int .i64 (m : Int), .slice A2 L c2, .int .i64 (m : Int), .slice A3 L c3] 31)) (c4i HX0.out HX1.out HX2.out HX3.out (blk_new W2 _) (Kd.C_below HC0.out P1.be) HL0.out (Kd.C_below HC1.out P1.be) HL1.out (Kd.C_below HC2.out P1.be) HL2.out (Kd.C_below HC3.out P1.be) HL3.out) (Nat.le_refl 4) HF.out; (with_reducible refine h_.mono ?_); clear h_; rintro er_ v1 ⟨rfl, hb⟩; have P2 := P1.on hb; clear hb P P1; have P := Aside0.mk P2; clear P2 x_0 x_1 x_2 x_3 x_4 x_5 x_6 x_7; have x0_ : v1.cell? ⟨b, 0, none⟩ = some (.int .i64 (m : Int)) := (blk_cell P.out.bx 0).trans rfl)
    | ((with_reducible refine gate_dst (N := 36) rfl ?_); refine Kd.R_make Kd.bool _ 4 rfl (N := 36) rfl 35 _ _ rfl (m : Int) rfl rfl Try.underlying35 (.bool false) 1 (by kernel_rfl) rfl (by decide) (by omega) false (ok := fun _ => True) (okp := fun _ => True) rfl (fun _ hk => hk) trivial (by omega) (by omega) (Below.refl _ _) (Nat.le_refl _) ?_; intro v_ v2 hR hb hg_ hn_; clear hg_ hn_ x0_; rw [Int.toNat_natCast] at hR; have ho_ := own_less (own_of_R_bit hR) P.out.be.size; obtain ⟨A_v, c_v, e_, -, -⟩ := Kd.R_reads hR; rw [List.length_replicate] at e_; subst e_; rw [List.length_replicate, ← RefPlain.doneTo_zero m (fun i => decide (says b0 b1 b2 b3 i = n))] at ho_; have HV := Aside0.mk ho_; have P2 := P.out.on hb; clear hb hR ho_ P; have P := Aside0.mk P2; clear P2))
  go_loopg [8] m (fun q_ s8 wr => ∃ y : Int, s8 = .int .i64 y ∧ Aside0 (0 ≤ y ∧ y ≤ m ∧ (q_ : Int) = m - y) ∧ Aside0 (I0 w wr b r #[.int .i64 (m : Int), .slice A0 L c0, .int .i64 (m : Int), .slice A1 L c1, .int .i64 (m : Int), .slice A2 L c2, .int .i64 (m : Int), .slice A3 L c3]) ∧ Aside0 (wr.ownsRow w.heap.size 4 1 (.slice A_v m c_v) m (bools (RefPlain.doneTo m y.toNat (fun i => decide (says b0 b1 b2 b3 i = n)) (fun _ => false)))))
  case atStart => exact ⟨0, rfl, ⟨by omega, by omega, by omega⟩, P, HV⟩
  case round =>
    clear P HV
    obtain ⟨y, rfl, HY, P, HV⟩ := hrel
    by_cases qy : y < m
    · have py : 0 ≤ y := HY.out.1
      go_wp2
      refine wp_loop_rounds 5 ?_
      obtain ⟨v0b, hv0⟩ : ∃ q, b0 y.toNat = q := ⟨_, rfl⟩
      have HB0w := Aside0.mk (show PB.vivariumref02_bit.f (m : Int) X0 y = some v0b by have h_ := HB0.out y.toNat (by omega); rw [Int.toNat_of_nonneg py, hv0] at h_; exact h_)
      have HB0v := Aside0.mk hv0
      clear hv0
      cases v0b with
      | true =>
        rw [rounds_succ]
        have x_0 : (wr).cell? ⟨b, 0, none⟩ = some (.int .i64 (m : Int)) := (blk_cell P.out.bx 0).trans rfl
        have x_1 : (wr).cell? ⟨b, 1, none⟩ = some (.slice A0 L c0) := (blk_cell P.out.bx 1).trans rfl
        have x_2 : (wr).cell? ⟨b, 2, none⟩ = some (.int .i64 (m : Int)) := (blk_cell P.out.bx 2).trans rfl
        have x_3 : (wr).cell? ⟨b, 3, none⟩ = some (.slice A1 L c1) := (blk_cell P.out.bx 3).trans rfl
        have x_4 : (wr).cell? ⟨b, 4, none⟩ = some (.int .i64 (m : Int)) := (blk_cell P.out.bx 4).trans rfl
        have x_5 : (wr).cell? ⟨b, 5, none⟩ = some (.slice A2 L c2) := (blk_cell P.out.bx 5).trans rfl
        have x_6 : (wr).cell? ⟨b, 6, none⟩ = some (.int .i64 (m : Int)) := (blk_cell P.out.bx 6).trans rfl
        have x_7 : (wr).cell? ⟨b, 7, none⟩ = some (.slice A3 L c3) := (blk_cell P.out.bx 7).trans rfl
        go_wp2_with (go_at_call 52; have P1 := P.out; have h_ := PB.vivariumref02_bit.calls (m : Int) A0 c0 X0 y true wr (Kd.C_below HC0.out P1.be) HL0.out HB0w.out; rw [HX0.out] at h_; (with_reducible refine h_.mono ?_); clear h_; rintro er_ z0 ⟨rfl, hb⟩; have P2 := P1.on hb; have HV2 := Aside0.mk (pw_own_below HV.out hb); clear hb P P1 HV x_0 x_1 x_2 x_3 x_4 x_5 x_6 x_7; have P := Aside0.mk P2; have HV := HV2; clear P2 HV2)
        obtain ⟨v1b, hv1⟩ : ∃ q, b1 y.toNat = q := ⟨_, rfl⟩
        have HB1w := Aside0.mk (show PB.vivariumref02_bit.f (m : Int) X1 y = some v1b by have h_ := HB1.out y.toNat (by omega); rw [Int.toNat_of_nonneg py, hv1] at h_; exact h_)
        have HB1v := Aside0.mk hv1
        clear hv1
        cases v1b with
        | true =>
          rw [rounds_succ]
          have x_0 : (z0).cell? ⟨b, 0, none⟩ = some (.int .i64 (m : Int)) := (blk_cell P.out.bx 0).trans rfl
          have x_1 : (z0).cell? ⟨b, 1, none⟩ = some (.slice A0 L c0) := (blk_cell P.out.bx 1).trans rfl
          have x_2 : (z0).cell? ⟨b, 2, none⟩ = some (.int .i64 (m : Int)) := (blk_cell P.out.bx 2).trans rfl
          have x_3 : (z0).cell? ⟨b, 3, none⟩ = some (.slice A1 L c1) := (blk_cell P.out.bx 3).trans rfl
          have x_4 : (z0).cell? ⟨b, 4, none⟩ = some (.int .i64 (m : Int)) := (blk_cell P.out.bx 4).trans rfl
          have x_5 : (z0).cell? ⟨b, 5, none⟩ = some (.slice A2 L c2) := (blk_cell P.out.bx 5).trans rfl
          have x_6 : (z0).cell? ⟨b, 6, none⟩ = some (.int .i64 (m : Int)) := (blk_cell P.out.bx 6).trans rfl
          have x_7 : (z0).cell? ⟨b, 7, none⟩ = some (.slice A3 L c3) := (blk_cell P.out.bx 7).trans rfl
          go_wp2_with (go_at_call 52; have P1 := P.out; have h_ := PB.vivariumref02_bit.calls (m : Int) A1 c1 X1 y true z0 (Kd.C_below HC1.out P1.be) HL1.out HB1w.out; rw [HX1.out] at h_; (with_reducible refine h_.mono ?_); clear h_; rintro er_ z1 ⟨rfl, hb⟩; have P2 := P1.on hb; have HV2 := Aside0.mk (pw_own_below HV.out hb); clear hb P P1 HV x_0 x_1 x_2 x_3 x_4 x_5 x_6 x_7; have P := Aside0.mk P2; have HV := HV2; clear P2 HV2)
          obtain ⟨v2b, hv2⟩ : ∃ q, b2 y.toNat = q := ⟨_, rfl⟩
          have HB2w := Aside0.mk (show PB.vivariumref02_bit.f (m : Int) X2 y = some v2b by have h_ := HB2.out y.toNat (by omega); rw [Int.toNat_of_nonneg py, hv2] at h_; exact h_)
          have HB2v := Aside0.mk hv2
          clear hv2
          cases v2b with
          | true =>
            rw [rounds_succ]
            have x_0 : (z1).cell? ⟨b, 0, none⟩ = some (.int .i64 (m : Int)) := (blk_cell P.out.bx 0).trans rfl
            have x_1 : (z1).cell? ⟨b, 1, none⟩ = some (.slice A0 L c0) := (blk_cell P.out.bx 1).trans rfl
            have x_2 : (z1).cell? ⟨b, 2, none⟩ = some (.int .i64 (m : Int)) := (blk_cell P.out.bx 2).trans rfl
            have x_3 : (z1).cell? ⟨b, 3, none⟩ = some (.slice A1 L c1) := (blk_cell P.out.bx 3).trans rfl
            have x_4 : (z1).cell? ⟨b, 4, none⟩ = some (.int .i64 (m : Int)) := (blk_cell P.out.bx 4).trans rfl
            have x_5 : (z1).cell? ⟨b, 5, none⟩ = some (.slice A2 L c2) := (blk_cell P.out.bx 5).trans rfl
            have x_6 : (z1).cell? ⟨b, 6, none⟩ = some (.int .i64 (m : Int)) := (blk_cell P.out.bx 6).trans rfl
            have x_7 : (z1).cell? ⟨b, 7, none⟩ = some (.slice A3 L c3) := (blk_cell P.out.bx 7).trans rfl
            go_wp2_with (go_at_call 52; have P1 := P.out; have h_ := PB.vivariumref02_bit.calls (m : Int) A2 c2 X2 y true z1 (Kd.C_below HC2.out P1.be) HL2.out HB2w.out; rw [HX2.out] at h_; (with_reducible refine h_.mono ?_); clear h_; rintro er_ z2 ⟨rfl, hb⟩; have P2 := P1.on hb; have HV2 := Aside0.mk (pw_own_below HV.out hb); clear hb P P1 HV x_0 x_1 x_2 x_3 x_4 x_5 x_6 x_7; have P := Aside0.mk P2; have HV := HV2; clear P2 HV2)
            obtain ⟨v3b, hv3⟩ : ∃ q, b3 y.toNat = q := ⟨_, rfl⟩
            have HB3w := Aside0.mk (show PB.vivariumref02_bit.f (m : Int) X3 y = some v3b by have h_ := HB3.out y.toNat (by omega); rw [Int.toNat_of_nonneg py, hv3] at h_; exact h_)
            have HB3v := Aside0.mk hv3
            clear hv3
            cases v3b with
            | true =>
              rw [rounds_succ]
              have x_0 : (z2).cell? ⟨b, 0, none⟩ = some (.int .i64 (m : Int)) := (blk_cell P.out.bx 0).trans rfl
              have x_1 : (z2).cell? ⟨b, 1, none⟩ = some (.slice A0 L c0) := (blk_cell P.out.bx 1).trans rfl
              have x_2 : (z2).cell? ⟨b, 2, none⟩ = some (.int .i64 (m : Int)) := (blk_cell P.out.bx 2).trans rfl
              have x_3 : (z2).cell? ⟨b, 3, none⟩ = some (.slice A1 L c1) := (blk_cell P.out.bx 3).trans rfl
              have x_4 : (z2).cell? ⟨b, 4, none⟩ = some (.int .i64 (m : Int)) := (blk_cell P.out.bx 4).trans rfl
              have x_5 : (z2).cell? ⟨b, 5, none⟩ = some (.slice A2 L c2) := (blk_cell P.out.bx 5).trans rfl
              have x_6 : (z2).cell? ⟨b, 6, none⟩ = some (.int .i64 (m : Int)) := (blk_cell P.out.bx 6).trans rfl
              have x_7 : (z2).cell? ⟨b, 7, none⟩ = some (.slice A3 L c3) := (blk_cell P.out.bx 7).trans rfl
              go_wp2_with (go_at_call 52; have P1 := P.out; have h_ := PB.vivariumref02_bit.calls (m : Int) A3 c3 X3 y true z2 (Kd.C_below HC3.out P1.be) HL3.out HB3w.out; rw [HX3.out] at h_; (with_reducible refine h_.mono ?_); clear h_; rintro er_ z3 ⟨rfl, hb⟩; have P2 := P1.on hb; have HV2 := Aside0.mk (pw_own_below HV.out hb); clear hb P P1 HV x_0 x_1 x_2 x_3 x_4 x_5 x_6 x_7; have P := Aside0.mk P2; have HV := HV2; clear P2 HV2)
              rw [rounds_succ]
              obtain ⟨g, e_⟩ := own_some' HV.out (by omega)
              subst e_
              have bc_ : z3.cell? ⟨g, y.toNat, none⟩ = some (.bool false) := own_cell HV.out y.toNat _ (by rw [bools, List.getElem?_map, RefPlain.doneTo_get _ _ (by omega)]; simp)
              have bf_ := own_free HV.out y.toNat
              go_wp2
              go_roundg (m - (y + 1).toNat)
              case measure => go_light; have := HY.out; omega
              case rel =>
                go_light
                refine ⟨y + 1, by have hw : wrap64 (y + 1) = y + 1 := (by unfold wrap64; omega); first | rfl | (rw [hw]; done) | (simp [hw]; done), ⟨by omega, by omega, by omega⟩, ?_⟩
                exact leaf P.out HV.out (by omega) (by omega) 15 rfl (by unfold says; rw [HB0v.out, HB1v.out, HB2v.out, HB3v.out]; rfl)
            | false =>
              rw [rounds_succ]
              have x_0 : (z2).cell? ⟨b, 0, none⟩ = some (.int .i64 (m : Int)) := (blk_cell P.out.bx 0).trans rfl
              have x_1 : (z2).cell? ⟨b, 1, none⟩ = some (.slice A0 L c0) := (blk_cell P.out.bx 1).trans rfl
              have x_2 : (z2).cell? ⟨b, 2, none⟩ = some (.int .i64 (m : Int)) := (blk_cell P.out.bx 2).trans rfl
              have x_3 : (z2).cell? ⟨b, 3, none⟩ = some (.slice A1 L c1) := (blk_cell P.out.bx 3).trans rfl
              have x_4 : (z2).cell? ⟨b, 4, none⟩ = some (.int .i64 (m : Int)) := (blk_cell P.out.bx 4).trans rfl
              have x_5 : (z2).cell? ⟨b, 5, none⟩ = some (.slice A2 L c2) := (blk_cell P.out.bx 5).trans rfl
              have x_6 : (z2).cell? ⟨b, 6, none⟩ = some (.int .i64 (m : Int)) := (blk_cell P.out.bx 6).trans rfl
              have x_7 : (z2).cell? ⟨b, 7, none⟩ = some (.slice A3 L c3) := (blk_cell P.out.bx 7).trans rfl
              go_wp2_with (go_at_call 52; have P1 := P.out; have h_ := PB.vivariumref02_bit.calls (m : Int) A3 c3 X3 y false z2 (Kd.C_below HC3.out P1.be) HL3.out HB3w.out; rw [HX3.out] at h_; (with_reducible refine h_.mono ?_); clear h_; rintro er_ z3 ⟨rfl, hb⟩; have P2 := P1.on hb; have HV2 := Aside0.mk (pw_own_below HV.out hb); clear hb P P1 HV x_0 x_1 x_2 x_3 x_4 x_5 x_6 x_7; have P := Aside0.mk P2; have HV := HV2; clear P2 HV2)
              rw [rounds_succ]
              obtain ⟨g, e_⟩ := own_some' HV.out (by omega)
              subst e_
              have bc_ : z3.cell? ⟨g, y.toNat, none⟩ = some (.bool false) := own_cell HV.out y.toNat _ (by rw [bools, List.getElem?_map, RefPlain.doneTo_get _ _ (by omega)]; simp)
              have bf_ := own_free HV.out y.toNat
              go_wp2
              go_roundg (m - (y + 1).toNat)
              case measure => go_light; have := HY.out; omega
              case rel =>
                go_light
                refine ⟨y + 1, by have hw : wrap64 (y + 1) = y + 1 := (by unfold wrap64; omega); first | rfl | (rw [hw]; done) | (simp [hw]; done), ⟨by omega, by omega, by omega⟩, ?_⟩
                exact leaf P.out HV.out (by omega) (by omega) 7 rfl (by unfold says; rw [HB0v.out, HB1v.out, HB2v.out, HB3v.out]; rfl)
          | false =>
            rw [rounds_succ]
            have x_0 : (z1).cell? ⟨b, 0, none⟩ = some (.int .i64 (m : Int)) := (blk_cell P.out.bx 0).trans rfl
            have x_1 : (z1).cell? ⟨b, 1, none⟩ = some (.slice A0 L c0) := (blk_cell P.out.bx 1).trans rfl
            have x_2 : (z1).cell? ⟨b, 2, none⟩ = some (.int .i64 (m : Int)) := (blk_cell P.out.bx 2).trans rfl
            have x_3 : (z1).cell? ⟨b, 3, none⟩ = some (.slice A1 L c1) := (blk_cell P.out.bx 3).trans rfl
            have x_4 : (z1).cell? ⟨b, 4, none⟩ = some (.int .i64 (m : Int)) := (blk_cell P.out.bx 4).trans rfl
            have x_5 : (z1).cell? ⟨b, 5, none⟩ = some (.slice A2 L c2) := (blk_cell P.out.bx 5).trans rfl
            have x_6 : (z1).cell? ⟨b, 6, none⟩ = some (.int .i64 (m : Int)) := (blk_cell P.out.bx 6).trans rfl
            have x_7 : (z1).cell? ⟨b, 7, none⟩ = some (.slice A3 L c3) := (blk_cell P.out.bx 7).trans rfl
            go_wp2_with (go_at_call 52; have P1 := P.out; have h_ := PB.vivariumref02_bit.calls (m : Int) A2 c2 X2 y false z1 (Kd.C_below HC2.out P1.be) HL2.out HB2w.out; rw [HX2.out] at h_; (with_reducible refine h_.mono ?_); clear h_; rintro er_ z2 ⟨rfl, hb⟩; have P2 := P1.on hb; have HV2 := Aside0.mk (pw_own_below HV.out hb); clear hb P P1 HV x_0 x_1 x_2 x_3 x_4 x_5 x_6 x_7; have P := Aside0.mk P2; have HV := HV2; clear P2 HV2)
            obtain ⟨v3b, hv3⟩ : ∃ q, b3 y.toNat = q := ⟨_, rfl⟩
            have HB3w := Aside0.mk (show PB.vivariumref02_bit.f (m : Int) X3 y = some v3b by have h_ := HB3.out y.toNat (by omega); rw [Int.toNat_of_nonneg py, hv3] at h_; exact h_)
            have HB3v := Aside0.mk hv3
            clear hv3
            cases v3b with
            | true =>
              rw [rounds_succ]
              have x_0 : (z2).cell? ⟨b, 0, none⟩ = some (.int .i64 (m : Int)) := (blk_cell P.out.bx 0).trans rfl
              have x_1 : (z2).cell? ⟨b, 1, none⟩ = some (.slice A0 L c0) := (blk_cell P.out.bx 1).trans rfl
              have x_2 : (z2).cell? ⟨b, 2, none⟩ = some (.int .i64 (m : Int)) := (blk_cell P.out.bx 2).trans rfl
              have x_3 : (z2).cell? ⟨b, 3, none⟩ = some (.slice A1 L c1) := (blk_cell P.out.bx 3).trans rfl
              have x_4 : (z2).cell? ⟨b, 4, none⟩ = some (.int .i64 (m : Int)) := (blk_cell P.out.bx 4).trans rfl
              have x_5 : (z2).cell? ⟨b, 5, none⟩ = some (.slice A2 L c2) := (blk_cell P.out.bx 5).trans rfl
              have x_6 : (z2).cell? ⟨b, 6, none⟩ = some (.int .i64 (m : Int)) := (blk_cell P.out.bx 6).trans rfl
              have x_7 : (z2).cell? ⟨b, 7, none⟩ = some (.slice A3 L c3) := (blk_cell P.out.bx 7).trans rfl
              go_wp2_with (go_at_call 52; have P1 := P.out; have h_ := PB.vivariumref02_bit.calls (m : Int) A3 c3 X3 y true z2 (Kd.C_below HC3.out P1.be) HL3.out HB3w.out; rw [HX3.out] at h_; (with_reducible refine h_.mono ?_); clear h_; rintro er_ z3 ⟨rfl, hb⟩; have P2 := P1.on hb; have HV2 := Aside0.mk (pw_own_below HV.out hb); clear hb P P1 HV x_0 x_1 x_2 x_3 x_4 x_5 x_6 x_7; have P := Aside0.mk P2; have HV := HV2; clear P2 HV2)
              rw [rounds_succ]
              obtain ⟨g, e_⟩ := own_some' HV.out (by omega)
              subst e_
              have bc_ : z3.cell? ⟨g, y.toNat, none⟩ = some (.bool false) := own_cell HV.out y.toNat _ (by rw [bools, List.getElem?_map, RefPlain.doneTo_get _ _ (by omega)]; simp)
              have bf_ := own_free HV.out y.toNat
              go_wp2
              go_roundg (m - (y + 1).toNat)
              case measure => go_light; have := HY.out; omega
              case rel =>
                go_light
                refine ⟨y + 1, by have hw : wrap64 (y + 1) = y + 1 := (by unfold wrap64; omega); first | rfl | (rw [hw]; done) | (simp [hw]; done), ⟨by omega, by omega, by omega⟩, ?_⟩
                exact leaf P.out HV.out (by omega) (by omega) 11 rfl (by unfold says; rw [HB0v.out, HB1v.out, HB2v.out, HB3v.out]; rfl)
            | false =>
              rw [rounds_succ]
              have x_0 : (z2).cell? ⟨b, 0, none⟩ = some (.int .i64 (m : Int)) := (blk_cell P.out.bx 0).trans rfl
              have x_1 : (z2).cell? ⟨b, 1, none⟩ = some (.slice A0 L c0) := (blk_cell P.out.bx 1).trans rfl
              have x_2 : (z2).cell? ⟨b, 2, none⟩ = some (.int .i64 (m : Int)) := (blk_cell P.out.bx 2).trans rfl
              have x_3 : (z2).cell? ⟨b, 3, none⟩ = some (.slice A1 L c1) := (blk_cell P.out.bx 3).trans rfl
              have x_4 : (z2).cell? ⟨b, 4, none⟩ = some (.int .i64 (m : Int)) := (blk_cell P.out.bx 4).trans rfl
              have x_5 : (z2).cell? ⟨b, 5, none⟩ = some (.slice A2 L c2) := (blk_cell P.out.bx 5).trans rfl
              have x_6 : (z2).cell? ⟨b, 6, none⟩ = some (.int .i64 (m : Int)) := (blk_cell P.out.bx 6).trans rfl
              have x_7 : (z2).cell? ⟨b, 7, none⟩ = some (.slice A3 L c3) := (blk_cell P.out.bx 7).trans rfl
              go_wp2_with (go_at_call 52; have P1 := P.out; have h_ := PB.vivariumref02_bit.calls (m : Int) A3 c3 X3 y false z2 (Kd.C_below HC3.out P1.be) HL3.out HB3w.out; rw [HX3.out] at h_; (with_reducible refine h_.mono ?_); clear h_; rintro er_ z3 ⟨rfl, hb⟩; have P2 := P1.on hb; have HV2 := Aside0.mk (pw_own_below HV.out hb); clear hb P P1 HV x_0 x_1 x_2 x_3 x_4 x_5 x_6 x_7; have P := Aside0.mk P2; have HV := HV2; clear P2 HV2)
              rw [rounds_succ]
              obtain ⟨g, e_⟩ := own_some' HV.out (by omega)
              subst e_
              have bc_ : z3.cell? ⟨g, y.toNat, none⟩ = some (.bool false) := own_cell HV.out y.toNat _ (by rw [bools, List.getElem?_map, RefPlain.doneTo_get _ _ (by omega)]; simp)
              have bf_ := own_free HV.out y.toNat
              go_wp2
              go_roundg (m - (y + 1).toNat)
              case measure => go_light; have := HY.out; omega
              case rel =>
                go_light
                refine ⟨y + 1, by have hw : wrap64 (y + 1) = y + 1 := (by unfold wrap64; omega); first | rfl | (rw [hw]; done) | (simp [hw]; done), ⟨by omega, by omega, by omega⟩, ?_⟩
                exact leaf P.out HV.out (by omega) (by omega) 3 rfl (by unfold says; rw [HB0v.out, HB1v.out, HB2v.out, HB3v.out]; rfl)
        | false =>
          rw [rounds_succ]
          have x_0 : (z0).cell? ⟨b, 0, none⟩ = some (.int .i64 (m : Int)) := (blk_cell P.out.bx 0).trans rfl
          have x_1 : (z0).cell? ⟨b, 1, none⟩ = some (.slice A0 L c0) := (blk_cell P.out.bx 1).trans rfl
          have x_2 : (z0).cell? ⟨b, 2, none⟩ = some (.int .i64 (m : Int)) := (blk_cell P.out.bx 2).trans rfl
          have x_3 : (z0).cell? ⟨b, 3, none⟩ = some (.slice A1 L c1) := (blk_cell P.out.bx 3).trans rfl
          have x_4 : (z0).cell? ⟨b, 4, none⟩ = some (.int .i64 (m : Int)) := (blk_cell P.out.bx 4).trans rfl
          have x_5 : (z0).cell? ⟨b, 5, none⟩ = some (.slice A2 L c2) := (blk_cell P.out.bx 5).trans rfl
          have x_6 : (z0).cell? ⟨b, 6, none⟩ = some (.int .i64 (m : Int)) := (blk_cell P.out.bx 6).trans rfl
          have x_7 : (z0).cell? ⟨b, 7, none⟩ = some (.slice A3 L c3) := (blk_cell P.out.bx 7).trans rfl
          go_wp2_with (go_at_call 52; have P1 := P.out; have h_ := PB.vivariumref02_bit.calls (m : Int) A1 c1 X1 y false z0 (Kd.C_below HC1.out P1.be) HL1.out HB1w.out; rw [HX1.out] at h_; (with_reducible refine h_.mono ?_); clear h_; rintro er_ z1 ⟨rfl, hb⟩; have P2 := P1.on hb; have HV2 := Aside0.mk (pw_own_below HV.out hb); clear hb P P1 HV x_0 x_1 x_2 x_3 x_4 x_5 x_6 x_7; have P := Aside0.mk P2; have HV := HV2; clear P2 HV2)
          obtain ⟨v2b, hv2⟩ : ∃ q, b2 y.toNat = q := ⟨_, rfl⟩
          have HB2w := Aside0.mk (show PB.vivariumref02_bit.f (m : Int) X2 y = some v2b by have h_ := HB2.out y.toNat (by omega); rw [Int.toNat_of_nonneg py, hv2] at h_; exact h_)
          have HB2v := Aside0.mk hv2
          clear hv2
          cases v2b with
          | true =>
            rw [rounds_succ]
            have x_0 : (z1).cell? ⟨b, 0, none⟩ = some (.int .i64 (m : Int)) := (blk_cell P.out.bx 0).trans rfl
            have x_1 : (z1).cell? ⟨b, 1, none⟩ = some (.slice A0 L c0) := (blk_cell P.out.bx 1).trans rfl
            have x_2 : (z1).cell? ⟨b, 2, none⟩ = some (.int .i64 (m : Int)) := (blk_cell P.out.bx 2).trans rfl
            have x_3 : (z1).cell? ⟨b, 3, none⟩ = some (.slice A1 L c1) := (blk_cell P.out.bx 3).trans rfl
            have x_4 : (z1).cell? ⟨b, 4, none⟩ = some (.int .i64 (m : Int)) := (blk_cell P.out.bx 4).trans rfl
            have x_5 : (z1).cell? ⟨b, 5, none⟩ = some (.slice A2 L c2) := (blk_cell P.out.bx 5).trans rfl
            have x_6 : (z1).cell? ⟨b, 6, none⟩ = some (.int .i64 (m : Int)) := (blk_cell P.out.bx 6).trans rfl
            have x_7 : (z1).cell? ⟨b, 7, none⟩ = some (.slice A3 L c3) := (blk_cell P.out.bx 7).trans rfl
            go_wp2_with (go_at_call 52; have P1 := P.out; have h_ := PB.vivariumref02_bit.calls (m : Int) A2 c2 X2 y true z1 (Kd.C_below HC2.out P1.be) HL2.out HB2w.out; rw [HX2.out] at h_; (with_reducible refine h_.mono ?_); clear h_; rintro er_ z2 ⟨rfl, hb⟩; have P2 := P1.on hb; have HV2 := Aside0.mk (pw_own_below HV.out hb); clear hb P P1 HV x_0 x_1 x_2 x_3 x_4 x_5 x_6 x_7; have P := Aside0.mk P2; have HV := HV2; clear P2 HV2)
            obtain ⟨v3b, hv3⟩ : ∃ q, b3 y.toNat = q := ⟨_, rfl⟩
            have HB3w := Aside0.mk (show PB.vivariumref02_bit.f (m : Int) X3 y = some v3b by have h_ := HB3.out y.toNat (by omega); rw [Int.toNat_of_nonneg py, hv3] at h_; exact h_)
            have HB3v := Aside0.mk hv3
            clear hv3
            cases v3b with
            | true =>
              rw [rounds_succ]
              have x_0 : (z2).cell? ⟨b, 0, none⟩ = some (.int .i64 (m : Int)) := (blk_cell P.out.bx 0).trans rfl
              have x_1 : (z2).cell? ⟨b, 1, none⟩ = some (.slice A0 L c0) := (blk_cell P.out.bx 1).trans rfl
              have x_2 : (z2).cell? ⟨b, 2, none⟩ = some (.int .i64 (m : Int)) := (blk_cell P.out.bx 2).trans rfl
              have x_3 : (z2).cell? ⟨b, 3, none⟩ = some (.slice A1 L c1) := (blk_cell P.out.bx 3).trans rfl
              have x_4 : (z2).cell? ⟨b, 4, none⟩ = some (.int .i64 (m : Int)) := (blk_cell P.out.bx 4).trans rfl
              have x_5 : (z2).cell? ⟨b, 5, none⟩ = some (.slice A2 L c2) := (blk_cell P.out.bx 5).trans rfl
              have x_6 : (z2).cell? ⟨b, 6, none⟩ = some (.int .i64 (m : Int)) := (blk_cell P.out.bx 6).trans rfl
              have x_7 : (z2).cell? ⟨b, 7, none⟩ = some (.slice A3 L c3) := (blk_cell P.out.bx 7).trans rfl
              go_wp2_with (go_at_call 52; have P1 := P.out; have h_ := PB.vivariumref02_bit.calls (m : Int) A3 c3 X3 y true z2 (Kd.C_below HC3.out P1.be) HL3.out HB3w.out; rw [HX3.out] at h_; (with_reducible refine h_.mono ?_); clear h_; rintro er_ z3 ⟨rfl, hb⟩; have P2 := P1.on hb; have HV2 := Aside0.mk (pw_own_below HV.out hb); clear hb P P1 HV x_0 x_1 x_2 x_3 x_4 x_5 x_6 x_7; have P := Aside0.mk P2; have HV := HV2; clear P2 HV2)
              rw [rounds_succ]
              obtain ⟨g, e_⟩ := own_some' HV.out (by omega)
              subst e_
              have bc_ : z3.cell? ⟨g, y.toNat, none⟩ = some (.bool false) := own_cell HV.out y.toNat _ (by rw [bools, List.getElem?_map, RefPlain.doneTo_get _ _ (by omega)]; simp)
              have bf_ := own_free HV.out y.toNat
              go_wp2
              go_roundg (m - (y + 1).toNat)
              case measure => go_light; have := HY.out; omega
              case rel =>
                go_light
                refine ⟨y + 1, by have hw : wrap64 (y + 1) = y + 1 := (by unfold wrap64; omega); first | rfl | (rw [hw]; done) | (simp [hw]; done), ⟨by omega, by omega, by omega⟩, ?_⟩
                exact leaf P.out HV.out (by omega) (by omega) 13 rfl (by unfold says; rw [HB0v.out, HB1v.out, HB2v.out, HB3v.out]; rfl)
            | false =>
              rw [rounds_succ]
              have x_0 : (z2).cell? ⟨b, 0, none⟩ = some (.int .i64 (m : Int)) := (blk_cell P.out.bx 0).trans rfl
              have x_1 : (z2).cell? ⟨b, 1, none⟩ = some (.slice A0 L c0) := (blk_cell P.out.bx 1).trans rfl
              have x_2 : (z2).cell? ⟨b, 2, none⟩ = some (.int .i64 (m : Int)) := (blk_cell P.out.bx 2).trans rfl
              have x_3 : (z2).cell? ⟨b, 3, none⟩ = some (.slice A1 L c1) := (blk_cell P.out.bx 3).trans rfl
              have x_4 : (z2).cell? ⟨b, 4, none⟩ = some (.int .i64 (m : Int)) := (blk_cell P.out.bx 4).trans rfl
              have x_5 : (z2).cell? ⟨b, 5, none⟩ = some (.slice A2 L c2) := (blk_cell P.out.bx 5).trans rfl
              have x_6 : (z2).cell? ⟨b, 6, none⟩ = some (.int .i64 (m : Int)) := (blk_cell P.out.bx 6).trans rfl
              have x_7 : (z2).cell? ⟨b, 7, none⟩ = some (.slice A3 L c3) := (blk_cell P.out.bx 7).trans rfl
              go_wp2_with (go_at_call 52; have P1 := P.out; have h_ := PB.vivariumref02_bit.calls (m : Int) A3 c3 X3 y false z2 (Kd.C_below HC3.out P1.be) HL3.out HB3w.out; rw [HX3.out] at h_; (with_reducible refine h_.mono ?_); clear h_; rintro er_ z3 ⟨rfl, hb⟩; have P2 := P1.on hb; have HV2 := Aside0.mk (pw_own_below HV.out hb); clear hb P P1 HV x_0 x_1 x_2 x_3 x_4 x_5 x_6 x_7; have P := Aside0.mk P2; have HV := HV2; clear P2 HV2)
              rw [rounds_succ]
              obtain ⟨g, e_⟩ := own_some' HV.out (by omega)
              subst e_
              have bc_ : z3.cell? ⟨g, y.toNat, none⟩ = some (.bool false) := own_cell HV.out y.toNat _ (by rw [bools, List.getElem?_map, RefPlain.doneTo_get _ _ (by omega)]; simp)
              have bf_ := own_free HV.out y.toNat
              go_wp2
              go_roundg (m - (y + 1).toNat)
              case measure => go_light; have := HY.out; omega
              case rel =>
                go_light
                refine ⟨y + 1, by have hw : wrap64 (y + 1) = y + 1 := (by unfold wrap64; omega); first | rfl | (rw [hw]; done) | (simp [hw]; done), ⟨by omega, by omega, by omega⟩, ?_⟩
                exact leaf P.out HV.out (by omega) (by omega) 5 rfl (by unfold says; rw [HB0v.out, HB1v.out, HB2v.out, HB3v.out]; rfl)
          | false =>
            rw [rounds_succ]
            have x_0 : (z1).cell? ⟨b, 0, none⟩ = some (.int .i64 (m : Int)) := (blk_cell P.out.bx 0).trans rfl
            have x_1 : (z1).cell? ⟨b, 1, none⟩ = some (.slice A0 L c0) := (blk_cell P.out.bx 1).trans rfl
            have x_2 : (z1).cell? ⟨b, 2, none⟩ = some (.int .i64 (m : Int)) := (blk_cell P.out.bx 2).trans rfl
            have x_3 : (z1).cell? ⟨b, 3, none⟩ = some (.slice A1 L c1) := (blk_cell P.out.bx 3).trans rfl
            have x_4 : (z1).cell? ⟨b, 4, none⟩ = some (.int .i64 (m : Int)) := (blk_cell P.out.bx 4).trans rfl
            have x_5 : (z1).cell? ⟨b, 5, none⟩ = some (.slice A2 L c2) := (blk_cell P.out.bx 5).trans rfl
            have x_6 : (z1).cell? ⟨b, 6, none⟩ = some (.int .i64 (m : Int)) := (blk_cell P.out.bx 6).trans rfl
            have x_7 : (z1).cell? ⟨b, 7, none⟩ = some (.slice A3 L c3) := (blk_cell P.out.bx 7).trans rfl
            go_wp2_with (go_at_call 52; have P1 := P.out; have h_ := PB.vivariumref02_bit.calls (m : Int) A2 c2 X2 y false z1 (Kd.C_below HC2.out P1.be) HL2.out HB2w.out; rw [HX2.out] at h_; (with_reducible refine h_.mono ?_); clear h_; rintro er_ z2 ⟨rfl, hb⟩; have P2 := P1.on hb; have HV2 := Aside0.mk (pw_own_below HV.out hb); clear hb P P1 HV x_0 x_1 x_2 x_3 x_4 x_5 x_6 x_7; have P := Aside0.mk P2; have HV := HV2; clear P2 HV2)
            obtain ⟨v3b, hv3⟩ : ∃ q, b3 y.toNat = q := ⟨_, rfl⟩
            have HB3w := Aside0.mk (show PB.vivariumref02_bit.f (m : Int) X3 y = some v3b by have h_ := HB3.out y.toNat (by omega); rw [Int.toNat_of_nonneg py, hv3] at h_; exact h_)
            have HB3v := Aside0.mk hv3
            clear hv3
            cases v3b with
            | true =>
              rw [rounds_succ]
              have x_0 : (z2).cell? ⟨b, 0, none⟩ = some (.int .i64 (m : Int)) := (blk_cell P.out.bx 0).trans rfl
              have x_1 : (z2).cell? ⟨b, 1, none⟩ = some (.slice A0 L c0) := (blk_cell P.out.bx 1).trans rfl
              have x_2 : (z2).cell? ⟨b, 2, none⟩ = some (.int .i64 (m : Int)) := (blk_cell P.out.bx 2).trans rfl
              have x_3 : (z2).cell? ⟨b, 3, none⟩ = some (.slice A1 L c1) := (blk_cell P.out.bx 3).trans rfl
              have x_4 : (z2).cell? ⟨b, 4, none⟩ = some (.int .i64 (m : Int)) := (blk_cell P.out.bx 4).trans rfl
              have x_5 : (z2).cell? ⟨b, 5, none⟩ = some (.slice A2 L c2) := (blk_cell P.out.bx 5).trans rfl
              have x_6 : (z2).cell? ⟨b, 6, none⟩ = some (.int .i64 (m : Int)) := (blk_cell P.out.bx 6).trans rfl
              have x_7 : (z2).cell? ⟨b, 7, none⟩ = some (.slice A3 L c3) := (blk_cell P.out.bx 7).trans rfl
              go_wp2_with (go_at_call 52; have P1 := P.out; have h_ := PB.vivariumref02_bit.calls (m : Int) A3 c3 X3 y true z2 (Kd.C_below HC3.out P1.be) HL3.out HB3w.out; rw [HX3.out] at h_; (with_reducible refine h_.mono ?_); clear h_; rintro er_ z3 ⟨rfl, hb⟩; have P2 := P1.on hb; have HV2 := Aside0.mk (pw_own_below HV.out hb); clear hb P P1 HV x_0 x_1 x_2 x_3 x_4 x_5 x_6 x_7; have P := Aside0.mk P2; have HV := HV2; clear P2 HV2)
              rw [rounds_succ]
              obtain ⟨g, e_⟩ := own_some' HV.out (by omega)
              subst e_
              have bc_ : z3.cell? ⟨g, y.toNat, none⟩ = some (.bool false) := own_cell HV.out y.toNat _ (by rw [bools, List.getElem?_map, RefPlain.doneTo_get _ _ (by omega)]; simp)
              have bf_ := own_free HV.out y.toNat
              go_wp2
              go_roundg (m - (y + 1).toNat)
              case measure => go_light; have := HY.out; omega
              case rel =>
                go_light
                refine ⟨y + 1, by have hw : wrap64 (y + 1) = y + 1 := (by unfold wrap64; omega); first | rfl | (rw [hw]; done) | (simp [hw]; done), ⟨by omega, by omega, by omega⟩, ?_⟩
                exact leaf P.out HV.out (by omega) (by omega) 9 rfl (by unfold says; rw [HB0v.out, HB1v.out, HB2v.out, HB3v.out]; rfl)
            | false =>
              rw [rounds_succ]
              have x_0 : (z2).cell? ⟨b, 0, none⟩ = some (.int .i64 (m : Int)) := (blk_cell P.out.bx 0).trans rfl
              have x_1 : (z2).cell? ⟨b, 1, none⟩ = some (.slice A0 L c0) := (blk_cell P.out.bx 1).trans rfl
              have x_2 : (z2).cell? ⟨b, 2, none⟩ = some (.int .i64 (m : Int)) := (blk_cell P.out.bx 2).trans rfl
              have x_3 : (z2).cell? ⟨b, 3, none⟩ = some (.slice A1 L c1) := (blk_cell P.out.bx 3).trans rfl
              have x_4 : (z2).cell? ⟨b, 4, none⟩ = some (.int .i64 (m : Int)) := (blk_cell P.out.bx 4).trans rfl
              have x_5 : (z2).cell? ⟨b, 5, none⟩ = some (.slice A2 L c2) := (blk_cell P.out.bx 5).trans rfl
              have x_6 : (z2).cell? ⟨b, 6, none⟩ = some (.int .i64 (m : Int)) := (blk_cell P.out.bx 6).trans rfl
              have x_7 : (z2).cell? ⟨b, 7, none⟩ = some (.slice A3 L c3) := (blk_cell P.out.bx 7).trans rfl
              go_wp2_with (go_at_call 52; have P1 := P.out; have h_ := PB.vivariumref02_bit.calls (m : Int) A3 c3 X3 y false z2 (Kd.C_below HC3.out P1.be) HL3.out HB3w.out; rw [HX3.out] at h_; (with_reducible refine h_.mono ?_); clear h_; rintro er_ z3 ⟨rfl, hb⟩; have P2 := P1.on hb; have HV2 := Aside0.mk (pw_own_below HV.out hb); clear hb P P1 HV x_0 x_1 x_2 x_3 x_4 x_5 x_6 x_7; have P := Aside0.mk P2; have HV := HV2; clear P2 HV2)
              rw [rounds_succ]
              obtain ⟨g, e_⟩ := own_some' HV.out (by omega)
              subst e_
              have bc_ : z3.cell? ⟨g, y.toNat, none⟩ = some (.bool false) := own_cell HV.out y.toNat _ (by rw [bools, List.getElem?_map, RefPlain.doneTo_get _ _ (by omega)]; simp)
              have bf_ := own_free HV.out y.toNat
              go_wp2
              go_roundg (m - (y + 1).toNat)
              case measure => go_light; have := HY.out; omega
              case rel =>
                go_light
                refine ⟨y + 1, by have hw : wrap64 (y + 1) = y + 1 := (by unfold wrap64; omega); first | rfl | (rw [hw]; done) | (simp [hw]; done), ⟨by omega, by omega, by omega⟩, ?_⟩
                exact leaf P.out HV.out (by omega) (by omega) 1 rfl (by unfold says; rw [HB0v.out, HB1v.out, HB2v.out, HB3v.out]; rfl)
      | false =>
        rw [rounds_succ]
        have x_0 : (wr).cell? ⟨b, 0, none⟩ = some (.int .i64 (m : Int)) := (blk_cell P.out.bx 0).trans rfl
        have x_1 : (wr).cell? ⟨b, 1, none⟩ = some (.slice A0 L c0) := (blk_cell P.out.bx 1).trans rfl
        have x_2 : (wr).cell? ⟨b, 2, none⟩ = some (.int .i64 (m : Int)) := (blk_cell P.out.bx 2).trans rfl
        have x_3 : (wr).cell? ⟨b, 3, none⟩ = some (.slice A1 L c1) := (blk_cell P.out.bx 3).trans rfl
        have x_4 : (wr).cell? ⟨b, 4, none⟩ = some (.int .i64 (m : Int)) := (blk_cell P.out.bx 4).trans rfl
        have x_5 : (wr).cell? ⟨b, 5, none⟩ = some (.slice A2 L c2) := (blk_cell P.out.bx 5).trans rfl
        have x_6 : (wr).cell? ⟨b, 6, none⟩ = some (.int .i64 (m : Int)) := (blk_cell P.out.bx 6).trans rfl
        have x_7 : (wr).cell? ⟨b, 7, none⟩ = some (.slice A3 L c3) := (blk_cell P.out.bx 7).trans rfl
        go_wp2_with (go_at_call 52; have P1 := P.out; have h_ := PB.vivariumref02_bit.calls (m : Int) A0 c0 X0 y false wr (Kd.C_below HC0.out P1.be) HL0.out HB0w.out; rw [HX0.out] at h_; (with_reducible refine h_.mono ?_); clear h_; rintro er_ z0 ⟨rfl, hb⟩; have P2 := P1.on hb; have HV2 := Aside0.mk (pw_own_below HV.out hb); clear hb P P1 HV x_0 x_1 x_2 x_3 x_4 x_5 x_6 x_7; have P := Aside0.mk P2; have HV := HV2; clear P2 HV2)
        obtain ⟨v1b, hv1⟩ : ∃ q, b1 y.toNat = q := ⟨_, rfl⟩
        have HB1w := Aside0.mk (show PB.vivariumref02_bit.f (m : Int) X1 y = some v1b by have h_ := HB1.out y.toNat (by omega); rw [Int.toNat_of_nonneg py, hv1] at h_; exact h_)
        have HB1v := Aside0.mk hv1
        clear hv1
        cases v1b with
        | true =>
          rw [rounds_succ]
          have x_0 : (z0).cell? ⟨b, 0, none⟩ = some (.int .i64 (m : Int)) := (blk_cell P.out.bx 0).trans rfl
          have x_1 : (z0).cell? ⟨b, 1, none⟩ = some (.slice A0 L c0) := (blk_cell P.out.bx 1).trans rfl
          have x_2 : (z0).cell? ⟨b, 2, none⟩ = some (.int .i64 (m : Int)) := (blk_cell P.out.bx 2).trans rfl
          have x_3 : (z0).cell? ⟨b, 3, none⟩ = some (.slice A1 L c1) := (blk_cell P.out.bx 3).trans rfl
          have x_4 : (z0).cell? ⟨b, 4, none⟩ = some (.int .i64 (m : Int)) := (blk_cell P.out.bx 4).trans rfl
          have x_5 : (z0).cell? ⟨b, 5, none⟩ = some (.slice A2 L c2) := (blk_cell P.out.bx 5).trans rfl
          have x_6 : (z0).cell? ⟨b, 6, none⟩ = some (.int .i64 (m : Int)) := (blk_cell P.out.bx 6).trans rfl
          have x_7 : (z0).cell? ⟨b, 7, none⟩ = some (.slice A3 L c3) := (blk_cell P.out.bx 7).trans rfl
          go_wp2_with (go_at_call 52; have P1 := P.out; have h_ := PB.vivariumref02_bit.calls (m : Int) A1 c1 X1 y true z0 (Kd.C_below HC1.out P1.be) HL1.out HB1w.out; rw [HX1.out] at h_; (with_reducible refine h_.mono ?_); clear h_; rintro er_ z1 ⟨rfl, hb⟩; have P2 := P1.on hb; have HV2 := Aside0.mk (pw_own_below HV.out hb); clear hb P P1 HV x_0 x_1 x_2 x_3 x_4 x_5 x_6 x_7; have P := Aside0.mk P2; have HV := HV2; clear P2 HV2)
          obtain ⟨v2b, hv2⟩ : ∃ q, b2 y.toNat = q := ⟨_, rfl⟩
          have HB2w := Aside0.mk (show PB.vivariumref02_bit.f (m : Int) X2 y = some v2b by have h_ := HB2.out y.toNat (by omega); rw [Int.toNat_of_nonneg py, hv2] at h_; exact h_)
          have HB2v := Aside0.mk hv2
          clear hv2
          cases v2b with
          | true =>
            rw [rounds_succ]
            have x_0 : (z1).cell? ⟨b, 0, none⟩ = some (.int .i64 (m : Int)) := (blk_cell P.out.bx 0).trans rfl
            have x_1 : (z1).cell? ⟨b, 1, none⟩ = some (.slice A0 L c0) := (blk_cell P.out.bx 1).trans rfl
            have x_2 : (z1).cell? ⟨b, 2, none⟩ = some (.int .i64 (m : Int)) := (blk_cell P.out.bx 2).trans rfl
            have x_3 : (z1).cell? ⟨b, 3, none⟩ = some (.slice A1 L c1) := (blk_cell P.out.bx 3).trans rfl
            have x_4 : (z1).cell? ⟨b, 4, none⟩ = some (.int .i64 (m : Int)) := (blk_cell P.out.bx 4).trans rfl
            have x_5 : (z1).cell? ⟨b, 5, none⟩ = some (.slice A2 L c2) := (blk_cell P.out.bx 5).trans rfl
            have x_6 : (z1).cell? ⟨b, 6, none⟩ = some (.int .i64 (m : Int)) := (blk_cell P.out.bx 6).trans rfl
            have x_7 : (z1).cell? ⟨b, 7, none⟩ = some (.slice A3 L c3) := (blk_cell P.out.bx 7).trans rfl
            go_wp2_with (go_at_call 52; have P1 := P.out; have h_ := PB.vivariumref02_bit.calls (m : Int) A2 c2 X2 y true z1 (Kd.C_below HC2.out P1.be) HL2.out HB2w.out; rw [HX2.out] at h_; (with_reducible refine h_.mono ?_); clear h_; rintro er_ z2 ⟨rfl, hb⟩; have P2 := P1.on hb; have HV2 := Aside0.mk (pw_own_below HV.out hb); clear hb P P1 HV x_0 x_1 x_2 x_3 x_4 x_5 x_6 x_7; have P := Aside0.mk P2; have HV := HV2; clear P2 HV2)
            obtain ⟨v3b, hv3⟩ : ∃ q, b3 y.toNat = q := ⟨_, rfl⟩
            have HB3w := Aside0.mk (show PB.vivariumref02_bit.f (m : Int) X3 y = some v3b by have h_ := HB3.out y.toNat (by omega); rw [Int.toNat_of_nonneg py, hv3] at h_; exact h_)
            have HB3v := Aside0.mk hv3
            clear hv3
            cases v3b with
            | true =>
              rw [rounds_succ]
              have x_0 : (z2).cell? ⟨b, 0, none⟩ = some (.int .i64 (m : Int)) := (blk_cell P.out.bx 0).trans rfl
              have x_1 : (z2).cell? ⟨b, 1, none⟩ = some (.slice A0 L c0) := (blk_cell P.out.bx 1).trans rfl
              have x_2 : (z2).cell? ⟨b, 2, none⟩ = some (.int .i64 (m : Int)) := (blk_cell P.out.bx 2).trans rfl
              have x_3 : (z2).cell? ⟨b, 3, none⟩ = some (.slice A1 L c1) := (blk_cell P.out.bx 3).trans rfl
              have x_4 : (z2).cell? ⟨b, 4, none⟩ = some (.int .i64 (m : Int)) := (blk_cell P.out.bx 4).trans rfl
              have x_5 : (z2).cell? ⟨b, 5, none⟩ = some (.slice A2 L c2) := (blk_cell P.out.bx 5).trans rfl
              have x_6 : (z2).cell? ⟨b, 6, none⟩ = some (.int .i64 (m : Int)) := (blk_cell P.out.bx 6).trans rfl
              have x_7 : (z2).cell? ⟨b, 7, none⟩ = some (.slice A3 L c3) := (blk_cell P.out.bx 7).trans rfl
              go_wp2_with (go_at_call 52; have P1 := P.out; have h_ := PB.vivariumref02_bit.calls (m : Int) A3 c3 X3 y true z2 (Kd.C_below HC3.out P1.be) HL3.out HB3w.out; rw [HX3.out] at h_; (with_reducible refine h_.mono ?_); clear h_; rintro er_ z3 ⟨rfl, hb⟩; have P2 := P1.on hb; have HV2 := Aside0.mk (pw_own_below HV.out hb); clear hb P P1 HV x_0 x_1 x_2 x_3 x_4 x_5 x_6 x_7; have P := Aside0.mk P2; have HV := HV2; clear P2 HV2)
              rw [rounds_succ]
              obtain ⟨g, e_⟩ := own_some' HV.out (by omega)
              subst e_
              have bc_ : z3.cell? ⟨g, y.toNat, none⟩ = some (.bool false) := own_cell HV.out y.toNat _ (by rw [bools, List.getElem?_map, RefPlain.doneTo_get _ _ (by omega)]; simp)
              have bf_ := own_free HV.out y.toNat
              go_wp2
              go_roundg (m - (y + 1).toNat)
              case measure => go_light; have := HY.out; omega
              case rel =>
                go_light
                refine ⟨y + 1, by have hw : wrap64 (y + 1) = y + 1 := (by unfold wrap64; omega); first | rfl | (rw [hw]; done) | (simp [hw]; done), ⟨by omega, by omega, by omega⟩, ?_⟩
                exact leaf P.out HV.out (by omega) (by omega) 14 rfl (by unfold says; rw [HB0v.out, HB1v.out, HB2v.out, HB3v.out]; rfl)
            | false =>
              rw [rounds_succ]
              have x_0 : (z2).cell? ⟨b, 0, none⟩ = some (.int .i64 (m : Int)) := (blk_cell P.out.bx 0).trans rfl
              have x_1 : (z2).cell? ⟨b, 1, none⟩ = some (.slice A0 L c0) := (blk_cell P.out.bx 1).trans rfl
              have x_2 : (z2).cell? ⟨b, 2, none⟩ = some (.int .i64 (m : Int)) := (blk_cell P.out.bx 2).trans rfl
              have x_3 : (z2).cell? ⟨b, 3, none⟩ = some (.slice A1 L c1) := (blk_cell P.out.bx 3).trans rfl
              have x_4 : (z2).cell? ⟨b, 4, none⟩ = some (.int .i64 (m : Int)) := (blk_cell P.out.bx 4).trans rfl
              have x_5 : (z2).cell? ⟨b, 5, none⟩ = some (.slice A2 L c2) := (blk_cell P.out.bx 5).trans rfl
              have x_6 : (z2).cell? ⟨b, 6, none⟩ = some (.int .i64 (m : Int)) := (blk_cell P.out.bx 6).trans rfl
              have x_7 : (z2).cell? ⟨b, 7, none⟩ = some (.slice A3 L c3) := (blk_cell P.out.bx 7).trans rfl
              go_wp2_with (go_at_call 52; have P1 := P.out; have h_ := PB.vivariumref02_bit.calls (m : Int) A3 c3 X3 y false z2 (Kd.C_below HC3.out P1.be) HL3.out HB3w.out; rw [HX3.out] at h_; (with_reducible refine h_.mono ?_); clear h_; rintro er_ z3 ⟨rfl, hb⟩; have P2 := P1.on hb; have HV2 := Aside0.mk (pw_own_below HV.out hb); clear hb P P1 HV x_0 x_1 x_2 x_3 x_4 x_5 x_6 x_7; have P := Aside0.mk P2; have HV := HV2; clear P2 HV2)
              rw [rounds_succ]
              obtain ⟨g, e_⟩ := own_some' HV.out (by omega)
              subst e_
              have bc_ : z3.cell? ⟨g, y.toNat, none⟩ = some (.bool false) := own_cell HV.out y.toNat _ (by rw [bools, List.getElem?_map, RefPlain.doneTo_get _ _ (by omega)]; simp)
              have bf_ := own_free HV.out y.toNat
              go_wp2
              go_roundg (m - (y + 1).toNat)
              case measure => go_light; have := HY.out; omega
              case rel =>
                go_light
                refine ⟨y + 1, by have hw : wrap64 (y + 1) = y + 1 := (by unfold wrap64; omega); first | rfl | (rw [hw]; done) | (simp [hw]; done), ⟨by omega, by omega, by omega⟩, ?_⟩
                exact leaf P.out HV.out (by omega) (by omega) 6 rfl (by unfold says; rw [HB0v.out, HB1v.out, HB2v.out, HB3v.out]; rfl)
          | false =>
            rw [rounds_succ]
            have x_0 : (z1).cell? ⟨b, 0, none⟩ = some (.int .i64 (m : Int)) := (blk_cell P.out.bx 0).trans rfl
            have x_1 : (z1).cell? ⟨b, 1, none⟩ = some (.slice A0 L c0) := (blk_cell P.out.bx 1).trans rfl
            have x_2 : (z1).cell? ⟨b, 2, none⟩ = some (.int .i64 (m : Int)) := (blk_cell P.out.bx 2).trans rfl
            have x_3 : (z1).cell? ⟨b, 3, none⟩ = some (.slice A1 L c1) := (blk_cell P.out.bx 3).trans rfl
            have x_4 : (z1).cell? ⟨b, 4, none⟩ = some (.int .i64 (m : Int)) := (blk_cell P.out.bx 4).trans rfl
            have x_5 : (z1).cell? ⟨b, 5, none⟩ = some (.slice A2 L c2) := (blk_cell P.out.bx 5).trans rfl
            have x_6 : (z1).cell? ⟨b, 6, none⟩ = some (.int .i64 (m : Int)) := (blk_cell P.out.bx 6).trans rfl
            have x_7 : (z1).cell? ⟨b, 7, none⟩ = some (.slice A3 L c3) := (blk_cell P.out.bx 7).trans rfl
            go_wp2_with (go_at_call 52; have P1 := P.out; have h_ := PB.vivariumref02_bit.calls (m : Int) A2 c2 X2 y false z1 (Kd.C_below HC2.out P1.be) HL2.out HB2w.out; rw [HX2.out] at h_; (with_reducible refine h_.mono ?_); clear h_; rintro er_ z2 ⟨rfl, hb⟩; have P2 := P1.on hb; have HV2 := Aside0.mk (pw_own_below HV.out hb); clear hb P P1 HV x_0 x_1 x_2 x_3 x_4 x_5 x_6 x_7; have P := Aside0.mk P2; have HV := HV2; clear P2 HV2)
            obtain ⟨v3b, hv3⟩ : ∃ q, b3 y.toNat = q := ⟨_, rfl⟩
            have HB3w := Aside0.mk (show PB.vivariumref02_bit.f (m : Int) X3 y = some v3b by have h_ := HB3.out y.toNat (by omega); rw [Int.toNat_of_nonneg py, hv3] at h_; exact h_)
            have HB3v := Aside0.mk hv3
            clear hv3
            cases v3b with
            | true =>
              rw [rounds_succ]
              have x_0 : (z2).cell? ⟨b, 0, none⟩ = some (.int .i64 (m : Int)) := (blk_cell P.out.bx 0).trans rfl
              have x_1 : (z2).cell? ⟨b, 1, none⟩ = some (.slice A0 L c0) := (blk_cell P.out.bx 1).trans rfl
              have x_2 : (z2).cell? ⟨b, 2, none⟩ = some (.int .i64 (m : Int)) := (blk_cell P.out.bx 2).trans rfl
              have x_3 : (z2).cell? ⟨b, 3, none⟩ = some (.slice A1 L c1) := (blk_cell P.out.bx 3).trans rfl
              have x_4 : (z2).cell? ⟨b, 4, none⟩ = some (.int .i64 (m : Int)) := (blk_cell P.out.bx 4).trans rfl
              have x_5 : (z2).cell? ⟨b, 5, none⟩ = some (.slice A2 L c2) := (blk_cell P.out.bx 5).trans rfl
              have x_6 : (z2).cell? ⟨b, 6, none⟩ = some (.int .i64 (m : Int)) := (blk_cell P.out.bx 6).trans rfl
              have x_7 : (z2).cell? ⟨b, 7, none⟩ = some (.slice A3 L c3) := (blk_cell P.out.bx 7).trans rfl
              go_wp2_with (go_at_call 52; have P1 := P.out; have h_ := PB.vivariumref02_bit.calls (m : Int) A3 c3 X3 y true z2 (Kd.C_below HC3.out P1.be) HL3.out HB3w.out; rw [HX3.out] at h_; (with_reducible refine h_.mono ?_); clear h_; rintro er_ z3 ⟨rfl, hb⟩; have P2 := P1.on hb; have HV2 := Aside0.mk (pw_own_below HV.out hb); clear hb P P1 HV x_0 x_1 x_2 x_3 x_4 x_5 x_6 x_7; have P := Aside0.mk P2; have HV := HV2; clear P2 HV2)
              rw [rounds_succ]
              obtain ⟨g, e_⟩ := own_some' HV.out (by omega)
              subst e_
              have bc_ : z3.cell? ⟨g, y.toNat, none⟩ = some (.bool false) := own_cell HV.out y.toNat _ (by rw [bools, List.getElem?_map, RefPlain.doneTo_get _ _ (by omega)]; simp)
              have bf_ := own_free HV.out y.toNat
              go_wp2
              go_roundg (m - (y + 1).toNat)
              case measure => go_light; have := HY.out; omega
              case rel =>
                go_light
                refine ⟨y + 1, by have hw : wrap64 (y + 1) = y + 1 := (by unfold wrap64; omega); first | rfl | (rw [hw]; done) | (simp [hw]; done), ⟨by omega, by omega, by omega⟩, ?_⟩
                exact leaf P.out HV.out (by omega) (by omega) 10 rfl (by unfold says; rw [HB0v.out, HB1v.out, HB2v.out, HB3v.out]; rfl)
            | false =>
              rw [rounds_succ]
              have x_0 : (z2).cell? ⟨b, 0, none⟩ = some (.int .i64 (m : Int)) := (blk_cell P.out.bx 0).trans rfl
              have x_1 : (z2).cell? ⟨b, 1, none⟩ = some (.slice A0 L c0) := (blk_cell P.out.bx 1).trans rfl
              have x_2 : (z2).cell? ⟨b, 2, none⟩ = some (.int .i64 (m : Int)) := (blk_cell P.out.bx 2).trans rfl
              have x_3 : (z2).cell? ⟨b, 3, none⟩ = some (.slice A1 L c1) := (blk_cell P.out.bx 3).trans rfl
              have x_4 : (z2).cell? ⟨b, 4, none⟩ = some (.int .i64 (m : Int)) := (blk_cell P.out.bx 4).trans rfl
              have x_5 : (z2).cell? ⟨b, 5, none⟩ = some (.slice A2 L c2) := (blk_cell P.out.bx 5).trans rfl
              have x_6 : (z2).cell? ⟨b, 6, none⟩ = some (.int .i64 (m : Int)) := (blk_cell P.out.bx 6).trans rfl
              have x_7 : (z2).cell? ⟨b, 7, none⟩ = some (.slice A3 L c3) := (blk_cell P.out.bx 7).trans rfl
              go_wp2_with (go_at_call 52; have P1 := P.out; have h_ := PB.vivariumref02_bit.calls (m : Int) A3 c3 X3 y false z2 (Kd.C_below HC3.out P1.be) HL3.out HB3w.out; rw [HX3.out] at h_; (with_reducible refine h_.mono ?_); clear h_; rintro er_ z3 ⟨rfl, hb⟩; have P2 := P1.on hb; have HV2 := Aside0.mk (pw_own_below HV.out hb); clear hb P P1 HV x_0 x_1 x_2 x_3 x_4 x_5 x_6 x_7; have P := Aside0.mk P2; have HV := HV2; clear P2 HV2)
              rw [rounds_succ]
              obtain ⟨g, e_⟩ := own_some' HV.out (by omega)
              subst e_
              have bc_ : z3.cell? ⟨g, y.toNat, none⟩ = some (.bool false) := own_cell HV.out y.toNat _ (by rw [bools, List.getElem?_map, RefPlain.doneTo_get _ _ (by omega)]; simp)
              have bf_ := own_free HV.out y.toNat
              go_wp2
              go_roundg (m - (y + 1).toNat)
              case measure => go_light; have := HY.out; omega
              case rel =>
                go_light
                refine ⟨y + 1, by have hw : wrap64 (y + 1) = y + 1 := (by unfold wrap64; omega); first | rfl | (rw [hw]; done) | (simp [hw]; done), ⟨by omega, by omega, by omega⟩, ?_⟩
                exact leaf P.out HV.out (by omega) (by omega) 2 rfl (by unfold says; rw [HB0v.out, HB1v.out, HB2v.out, HB3v.out]; rfl)
        | false =>
          rw [rounds_succ]
          have x_0 : (z0).cell? ⟨b, 0, none⟩ = some (.int .i64 (m : Int)) := (blk_cell P.out.bx 0).trans rfl
          have x_1 : (z0).cell? ⟨b, 1, none⟩ = some (.slice A0 L c0) := (blk_cell P.out.bx 1).trans rfl
          have x_2 : (z0).cell? ⟨b, 2, none⟩ = some (.int .i64 (m : Int)) := (blk_cell P.out.bx 2).trans rfl
          have x_3 : (z0).cell? ⟨b, 3, none⟩ = some (.slice A1 L c1) := (blk_cell P.out.bx 3).trans rfl
          have x_4 : (z0).cell? ⟨b, 4, none⟩ = some (.int .i64 (m : Int)) := (blk_cell P.out.bx 4).trans rfl
          have x_5 : (z0).cell? ⟨b, 5, none⟩ = some (.slice A2 L c2) := (blk_cell P.out.bx 5).trans rfl
          have x_6 : (z0).cell? ⟨b, 6, none⟩ = some (.int .i64 (m : Int)) := (blk_cell P.out.bx 6).trans rfl
          have x_7 : (z0).cell? ⟨b, 7, none⟩ = some (.slice A3 L c3) := (blk_cell P.out.bx 7).trans rfl
          go_wp2_with (go_at_call 52; have P1 := P.out; have h_ := PB.vivariumref02_bit.calls (m : Int) A1 c1 X1 y false z0 (Kd.C_below HC1.out P1.be) HL1.out HB1w.out; rw [HX1.out] at h_; (with_reducible refine h_.mono ?_); clear h_; rintro er_ z1 ⟨rfl, hb⟩; have P2 := P1.on hb; have HV2 := Aside0.mk (pw_own_below HV.out hb); clear hb P P1 HV x_0 x_1 x_2 x_3 x_4 x_5 x_6 x_7; have P := Aside0.mk P2; have HV := HV2; clear P2 HV2)
          obtain ⟨v2b, hv2⟩ : ∃ q, b2 y.toNat = q := ⟨_, rfl⟩
          have HB2w := Aside0.mk (show PB.vivariumref02_bit.f (m : Int) X2 y = some v2b by have h_ := HB2.out y.toNat (by omega); rw [Int.toNat_of_nonneg py, hv2] at h_; exact h_)
          have HB2v := Aside0.mk hv2
          clear hv2
          cases v2b with
          | true =>
            rw [rounds_succ]
            have x_0 : (z1).cell? ⟨b, 0, none⟩ = some (.int .i64 (m : Int)) := (blk_cell P.out.bx 0).trans rfl
            have x_1 : (z1).cell? ⟨b, 1, none⟩ = some (.slice A0 L c0) := (blk_cell P.out.bx 1).trans rfl
            have x_2 : (z1).cell? ⟨b, 2, none⟩ = some (.int .i64 (m : Int)) := (blk_cell P.out.bx 2).trans rfl
            have x_3 : (z1).cell? ⟨b, 3, none⟩ = some (.slice A1 L c1) := (blk_cell P.out.bx 3).trans rfl
            have x_4 : (z1).cell? ⟨b, 4, none⟩ = some (.int .i64 (m : Int)) := (blk_cell P.out.bx 4).trans rfl
            have x_5 : (z1).cell? ⟨b, 5, none⟩ = some (.slice A2 L c2) := (blk_cell P.out.bx 5).trans rfl
            have x_6 : (z1).cell? ⟨b, 6, none⟩ = some (.int .i64 (m : Int)) := (blk_cell P.out.bx 6).trans rfl
            have x_7 : (z1).cell? ⟨b, 7, none⟩ = some (.slice A3 L c3) := (blk_cell P.out.bx 7).trans rfl
            go_wp2_with (go_at_call 52; have P1 := P.out; have h_ := PB.vivariumref02_bit.calls (m : Int) A2 c2 X2 y true z1 (Kd.C_below HC2.out P1.be) HL2.out HB2w.out; rw [HX2.out] at h_; (with_reducible refine h_.mono ?_); clear h_; rintro er_ z2 ⟨rfl, hb⟩; have P2 := P1.on hb; have HV2 := Aside0.mk (pw_own_below HV.out hb); clear hb P P1 HV x_0 x_1 x_2 x_3 x_4 x_5 x_6 x_7; have P := Aside0.mk P2; have HV := HV2; clear P2 HV2)
            obtain ⟨v3b, hv3⟩ : ∃ q, b3 y.toNat = q := ⟨_, rfl⟩
            have HB3w := Aside0.mk (show PB.vivariumref02_bit.f (m : Int) X3 y = some v3b by have h_ := HB3.out y.toNat (by omega); rw [Int.toNat_of_nonneg py, hv3] at h_; exact h_)
            have HB3v := Aside0.mk hv3
            clear hv3
            cases v3b with
            | true =>
              rw [rounds_succ]
              have x_0 : (z2).cell? ⟨b, 0, none⟩ = some (.int .i64 (m : Int)) := (blk_cell P.out.bx 0).trans rfl
              have x_1 : (z2).cell? ⟨b, 1, none⟩ = some (.slice A0 L c0) := (blk_cell P.out.bx 1).trans rfl
              have x_2 : (z2).cell? ⟨b, 2, none⟩ = some (.int .i64 (m : Int)) := (blk_cell P.out.bx 2).trans rfl
              have x_3 : (z2).cell? ⟨b, 3, none⟩ = some (.slice A1 L c1) := (blk_cell P.out.bx 3).trans rfl
              have x_4 : (z2).cell? ⟨b, 4, none⟩ = some (.int .i64 (m : Int)) := (blk_cell P.out.bx 4).trans rfl
              have x_5 : (z2).cell? ⟨b, 5, none⟩ = some (.slice A2 L c2) := (blk_cell P.out.bx 5).trans rfl
              have x_6 : (z2).cell? ⟨b, 6, none⟩ = some (.int .i64 (m : Int)) := (blk_cell P.out.bx 6).trans rfl
              have x_7 : (z2).cell? ⟨b, 7, none⟩ = some (.slice A3 L c3) := (blk_cell P.out.bx 7).trans rfl
              go_wp2_with (go_at_call 52; have P1 := P.out; have h_ := PB.vivariumref02_bit.calls (m : Int) A3 c3 X3 y true z2 (Kd.C_below HC3.out P1.be) HL3.out HB3w.out; rw [HX3.out] at h_; (with_reducible refine h_.mono ?_); clear h_; rintro er_ z3 ⟨rfl, hb⟩; have P2 := P1.on hb; have HV2 := Aside0.mk (pw_own_below HV.out hb); clear hb P P1 HV x_0 x_1 x_2 x_3 x_4 x_5 x_6 x_7; have P := Aside0.mk P2; have HV := HV2; clear P2 HV2)
              rw [rounds_succ]
              obtain ⟨g, e_⟩ := own_some' HV.out (by omega)
              subst e_
              have bc_ : z3.cell? ⟨g, y.toNat, none⟩ = some (.bool false) := own_cell HV.out y.toNat _ (by rw [bools, List.getElem?_map, RefPlain.doneTo_get _ _ (by omega)]; simp)
              have bf_ := own_free HV.out y.toNat
              go_wp2
              go_roundg (m - (y + 1).toNat)
              case measure => go_light; have := HY.out; omega
              case rel =>
                go_light
                refine ⟨y + 1, by have hw : wrap64 (y + 1) = y + 1 := (by unfold wrap64; omega); first | rfl | (rw [hw]; done) | (simp [hw]; done), ⟨by omega, by omega, by omega⟩, ?_⟩
                exact leaf P.out HV.out (by omega) (by omega) 12 rfl (by unfold says; rw [HB0v.out, HB1v.out, HB2v.out, HB3v.out]; rfl)
            | false =>
              rw [rounds_succ]
              have x_0 : (z2).cell? ⟨b, 0, none⟩ = some (.int .i64 (m : Int)) := (blk_cell P.out.bx 0).trans rfl
              have x_1 : (z2).cell? ⟨b, 1, none⟩ = some (.slice A0 L c0) := (blk_cell P.out.bx 1).trans rfl
              have x_2 : (z2).cell? ⟨b, 2, none⟩ = some (.int .i64 (m : Int)) := (blk_cell P.out.bx 2).trans rfl
              have x_3 : (z2).cell? ⟨b, 3, none⟩ = some (.slice A1 L c1) := (blk_cell P.out.bx 3).trans rfl
              have x_4 : (z2).cell? ⟨b, 4, none⟩ = some (.int .i64 (m : Int)) := (blk_cell P.out.bx 4).trans rfl
              have x_5 : (z2).cell? ⟨b, 5, none⟩ = some (.slice A2 L c2) := (blk_cell P.out.bx 5).trans rfl
              have x_6 : (z2).cell? ⟨b, 6, none⟩ = some (.int .i64 (m : Int)) := (blk_cell P.out.bx 6).trans rfl
              have x_7 : (z2).cell? ⟨b, 7, none⟩ = some (.slice A3 L c3) := (blk_cell P.out.bx 7).trans rfl
              go_wp2_with (go_at_call 52; have P1 := P.out; have h_ := PB.vivariumref02_bit.calls (m : Int) A3 c3 X3 y false z2 (Kd.C_below HC3.out P1.be) HL3.out HB3w.out; rw [HX3.out] at h_; (with_reducible refine h_.mono ?_); clear h_; rintro er_ z3 ⟨rfl, hb⟩; have P2 := P1.on hb; have HV2 := Aside0.mk (pw_own_below HV.out hb); clear hb P P1 HV x_0 x_1 x_2 x_3 x_4 x_5 x_6 x_7; have P := Aside0.mk P2; have HV := HV2; clear P2 HV2)
              rw [rounds_succ]
              obtain ⟨g, e_⟩ := own_some' HV.out (by omega)
              subst e_
              have bc_ : z3.cell? ⟨g, y.toNat, none⟩ = some (.bool false) := own_cell HV.out y.toNat _ (by rw [bools, List.getElem?_map, RefPlain.doneTo_get _ _ (by omega)]; simp)
              have bf_ := own_free HV.out y.toNat
              go_wp2
              go_roundg (m - (y + 1).toNat)
              case measure => go_light; have := HY.out; omega
              case rel =>
                go_light
                refine ⟨y + 1, by have hw : wrap64 (y + 1) = y + 1 := (by unfold wrap64; omega); first | rfl | (rw [hw]; done) | (simp [hw]; done), ⟨by omega, by omega, by omega⟩, ?_⟩
                exact leaf P.out HV.out (by omega) (by omega) 4 rfl (by unfold says; rw [HB0v.out, HB1v.out, HB2v.out, HB3v.out]; rfl)
          | false =>
            rw [rounds_succ]
            have x_0 : (z1).cell? ⟨b, 0, none⟩ = some (.int .i64 (m : Int)) := (blk_cell P.out.bx 0).trans rfl
            have x_1 : (z1).cell? ⟨b, 1, none⟩ = some (.slice A0 L c0) := (blk_cell P.out.bx 1).trans rfl
            have x_2 : (z1).cell? ⟨b, 2, none⟩ = some (.int .i64 (m : Int)) := (blk_cell P.out.bx 2).trans rfl
            have x_3 : (z1).cell? ⟨b, 3, none⟩ = some (.slice A1 L c1) := (blk_cell P.out.bx 3).trans rfl
            have x_4 : (z1).cell? ⟨b, 4, none⟩ = some (.int .i64 (m : Int)) := (blk_cell P.out.bx 4).trans rfl
            have x_5 : (z1).cell? ⟨b, 5, none⟩ = some (.slice A2 L c2) := (blk_cell P.out.bx 5).trans rfl
            have x_6 : (z1).cell? ⟨b, 6, none⟩ = some (.int .i64 (m : Int)) := (blk_cell P.out.bx 6).trans rfl
            have x_7 : (z1).cell? ⟨b, 7, none⟩ = some (.slice A3 L c3) := (blk_cell P.out.bx 7).trans rfl
            go_wp2_with (go_at_call 52; have P1 := P.out; have h_ := PB.vivariumref02_bit.calls (m : Int) A2 c2 X2 y false z1 (Kd.C_below HC2.out P1.be) HL2.out HB2w.out; rw [HX2.out] at h_; (with_reducible refine h_.mono ?_); clear h_; rintro er_ z2 ⟨rfl, hb⟩; have P2 := P1.on hb; have HV2 := Aside0.mk (pw_own_below HV.out hb); clear hb P P1 HV x_0 x_1 x_2 x_3 x_4 x_5 x_6 x_7; have P := Aside0.mk P2; have HV := HV2; clear P2 HV2)
            obtain ⟨v3b, hv3⟩ : ∃ q, b3 y.toNat = q := ⟨_, rfl⟩
            have HB3w := Aside0.mk (show PB.vivariumref02_bit.f (m : Int) X3 y = some v3b by have h_ := HB3.out y.toNat (by omega); rw [Int.toNat_of_nonneg py, hv3] at h_; exact h_)
            have HB3v := Aside0.mk hv3
            clear hv3
            cases v3b with
            | true =>
              rw [rounds_succ]
              have x_0 : (z2).cell? ⟨b, 0, none⟩ = some (.int .i64 (m : Int)) := (blk_cell P.out.bx 0).trans rfl
              have x_1 : (z2).cell? ⟨b, 1, none⟩ = some (.slice A0 L c0) := (blk_cell P.out.bx 1).trans rfl
              have x_2 : (z2).cell? ⟨b, 2, none⟩ = some (.int .i64 (m : Int)) := (blk_cell P.out.bx 2).trans rfl
              have x_3 : (z2).cell? ⟨b, 3, none⟩ = some (.slice A1 L c1) := (blk_cell P.out.bx 3).trans rfl
              have x_4 : (z2).cell? ⟨b, 4, none⟩ = some (.int .i64 (m : Int)) := (blk_cell P.out.bx 4).trans rfl
              have x_5 : (z2).cell? ⟨b, 5, none⟩ = some (.slice A2 L c2) := (blk_cell P.out.bx 5).trans rfl
              have x_6 : (z2).cell? ⟨b, 6, none⟩ = some (.int .i64 (m : Int)) := (blk_cell P.out.bx 6).trans rfl
              have x_7 : (z2).cell? ⟨b, 7, none⟩ = some (.slice A3 L c3) := (blk_cell P.out.bx 7).trans rfl
              go_wp2_with (go_at_call 52; have P1 := P.out; have h_ := PB.vivariumref02_bit.calls (m : Int) A3 c3 X3 y true z2 (Kd.C_below HC3.out P1.be) HL3.out HB3w.out; rw [HX3.out] at h_; (with_reducible refine h_.mono ?_); clear h_; rintro er_ z3 ⟨rfl, hb⟩; have P2 := P1.on hb; have HV2 := Aside0.mk (pw_own_below HV.out hb); clear hb P P1 HV x_0 x_1 x_2 x_3 x_4 x_5 x_6 x_7; have P := Aside0.mk P2; have HV := HV2; clear P2 HV2)
              rw [rounds_succ]
              obtain ⟨g, e_⟩ := own_some' HV.out (by omega)
              subst e_
              have bc_ : z3.cell? ⟨g, y.toNat, none⟩ = some (.bool false) := own_cell HV.out y.toNat _ (by rw [bools, List.getElem?_map, RefPlain.doneTo_get _ _ (by omega)]; simp)
              have bf_ := own_free HV.out y.toNat
              go_wp2
              go_roundg (m - (y + 1).toNat)
              case measure => go_light; have := HY.out; omega
              case rel =>
                go_light
                refine ⟨y + 1, by have hw : wrap64 (y + 1) = y + 1 := (by unfold wrap64; omega); first | rfl | (rw [hw]; done) | (simp [hw]; done), ⟨by omega, by omega, by omega⟩, ?_⟩
                exact leaf P.out HV.out (by omega) (by omega) 8 rfl (by unfold says; rw [HB0v.out, HB1v.out, HB2v.out, HB3v.out]; rfl)
            | false =>
              rw [rounds_succ]
              have x_0 : (z2).cell? ⟨b, 0, none⟩ = some (.int .i64 (m : Int)) := (blk_cell P.out.bx 0).trans rfl
              have x_1 : (z2).cell? ⟨b, 1, none⟩ = some (.slice A0 L c0) := (blk_cell P.out.bx 1).trans rfl
              have x_2 : (z2).cell? ⟨b, 2, none⟩ = some (.int .i64 (m : Int)) := (blk_cell P.out.bx 2).trans rfl
              have x_3 : (z2).cell? ⟨b, 3, none⟩ = some (.slice A1 L c1) := (blk_cell P.out.bx 3).trans rfl
              have x_4 : (z2).cell? ⟨b, 4, none⟩ = some (.int .i64 (m : Int)) := (blk_cell P.out.bx 4).trans rfl
              have x_5 : (z2).cell? ⟨b, 5, none⟩ = some (.slice A2 L c2) := (blk_cell P.out.bx 5).trans rfl
              have x_6 : (z2).cell? ⟨b, 6, none⟩ = some (.int .i64 (m : Int)) := (blk_cell P.out.bx 6).trans rfl
              have x_7 : (z2).cell? ⟨b, 7, none⟩ = some (.slice A3 L c3) := (blk_cell P.out.bx 7).trans rfl
              go_wp2_with (go_at_call 52; have P1 := P.out; have h_ := PB.vivariumref02_bit.calls (m : Int) A3 c3 X3 y false z2 (Kd.C_below HC3.out P1.be) HL3.out HB3w.out; rw [HX3.out] at h_; (with_reducible refine h_.mono ?_); clear h_; rintro er_ z3 ⟨rfl, hb⟩; have P2 := P1.on hb; have HV2 := Aside0.mk (pw_own_below HV.out hb); clear hb P P1 HV x_0 x_1 x_2 x_3 x_4 x_5 x_6 x_7; have P := Aside0.mk P2; have HV := HV2; clear P2 HV2)
              rw [rounds_succ]
              obtain ⟨g, e_⟩ := own_some' HV.out (by omega)
              subst e_
              have bc_ : z3.cell? ⟨g, y.toNat, none⟩ = some (.bool false) := own_cell HV.out y.toNat _ (by rw [bools, List.getElem?_map, RefPlain.doneTo_get _ _ (by omega)]; simp)
              have bf_ := own_free HV.out y.toNat
              go_wp2
              go_roundg (m - (y + 1).toNat)
              case measure => go_light; have := HY.out; omega
              case rel =>
                go_light
                refine ⟨y + 1, by have hw : wrap64 (y + 1) = y + 1 := (by unfold wrap64; omega); first | rfl | (rw [hw]; done) | (simp [hw]; done), ⟨by omega, by omega, by omega⟩, ?_⟩
                exact leaf P.out HV.out (by omega) (by omega) 0 rfl (by unfold says; rw [HB0v.out, HB1v.out, HB2v.out, HB3v.out]; rfl)
    · have hy : y = m := by have := HY.out; omega
      have h2 := HV.out
      rw [hy, Int.toNat_natCast] at h2
      clear HV
      have HV := Aside0.mk h2
      clear h2
      subst hy
      have z0_ := (blk_cell P.out.rx 0).trans (show ((#[Value.int .i64 0, Value.slice none 0 0] : Array Value)[0]?) = some (.int .i64 0) from rfl); have z1_ := (blk_cell P.out.rx 1).trans (show ((#[Value.int .i64 0, Value.slice none 0 0] : Array Value)[1]?) = some (.slice none 0 0) from rfl); have f0_ := blk_frozen P.out.rx 0; have f1_ := blk_frozen P.out.rx 1
      go_wp2_with (go_at_call 48; have P1 := P.out; have h_ := PB.vivariumref02_Row.calls k A_v c_v _ (m : Int) V wr (RefCount.bit_C' (RefPlain.doneTo_len _ _ _ _) HV.out) (by rw [RefPlain.doneTo_len]; exact own_le HV.out) HVV.out; rw [RefPlain.doneTo_len] at h_; (with_reducible refine h_.mono ?_); clear h_; rintro er_ u ⟨t_, rfl, hR, hb⟩; obtain ⟨Ao, co, e_, -, -⟩ := Kd.R_reads hR; subst e_; have how_ : u.ownsRow wr.heap.size 22 1 (.slice Ao V.length co) V.length (nums .u64 V) := Kd.own_of_R hR; have P2 := P1.on hb; have HOW := Aside0.mk (own_less how_ P1.be.size); clear how_ hb hR P P1 HV z0_ z1_ f0_ f1_; have P := Aside0.mk P2; clear P2; have z0_ := (blk_cell P.out.rx 0).trans (show ((#[Value.int .i64 0, Value.slice none 0 0] : Array Value)[0]?) = some (.int .i64 0) from rfl); have z1_ := (blk_cell P.out.rx 1).trans (show ((#[Value.int .i64 0, Value.slice none 0 0] : Array Value)[1]?) = some (.slice none 0 0) from rfl); have f0_ := blk_frozen P.out.rx 0; have f1_ := blk_frozen P.out.rx 1)
      have hrx := P.out.rx
      exact bodyPost_ret (results_ct rfl _ _ r 31 #[.int .i64 (m : Int), .slice Ao V.length co] (0, 0) _ rfl (blk_put (cs := #[.int .i64 (m : Int), .slice none 0 0]) (blk_put hrx 0 _ rfl) 1 _ rfl) hu rfl (by kernel_rfl)) rfl ⟨_, rfl, own_set_other (own_set_other HOW.out hrx (by decide)) (blk_put (cs' := #[.int .i64 (m : Int), .slice none 0 0]) hrx 0 _ rfl) (by decide), below_set (below_set P.out.be P.out.re) P.out.re⟩
end Go.Proofs.Ytlghmadoogblcaa.RefIs
end
section
namespace Go.Proofs.Ytlghmadoogblcaa.IsPlain
open Go Go.RowKit Go.Proofs.Ytlghmadoogblcaa.PW Go.Proofs.YtlghmadoogblcaaW.PrintWords Go.Proofs.YtlghmadoogblcaaW.PrintLast Go.Proofs.YtlghmadoogblcaaW.PrintMore Go.Proofs.Ytlghmadoogblcaa.Bits Go.Proofs.Ytlghmadoogblcaa.Rowp Go.Proofs.Ytlghmadoogblcaa.RefPlain Go.Proofs.Ytlghmadoogblcaa.Rows4 Go.Proofs.Ytlghmadoogblcaa.CountPlain
set_option maxRecDepth 100000
set_option linter.unusedVariables false
theorem bits_andNot_u64_nat (a b : Nat) (ha : a < 18446744073709551616) (hb : b < 18446744073709551616) : Go.bits .andNot .u64 (a : Int) (b : Int) = ((a &&& (b ^^^ ones) : Nat) : Int) := by
  have e1 : BitVec.ofInt 64 (a : Int) = BitVec.ofNat 64 a := BitVec.ofInt_natCast ..
  have e2 : ~~~ BitVec.ofInt 64 (b : Int) = BitVec.ofNat 64 (b ^^^ ones) := by
    rw [BitVec.ofInt_natCast]
    ext i hi
    simp only [BitVec.getElem_not]
    simp only [← BitVec.getLsbD_eq_getElem, BitVec.getLsbD_ofNat, hi, decide_true, Bool.true_and, Nat.testBit_xor, ones_bit, Bool.bne_true]
  show IntKind.u64.wrap ((BitVec.ofInt 64 (a : Int) &&& ~~~ BitVec.ofInt 64 (b : Int)).toNat : Int) = _
  rw [e1, e2, BitVec.toNat_and, BitVec.toNat_ofNat, BitVec.toNat_ofNat, Nat.mod_eq_of_lt (by omega), Nat.mod_eq_of_lt (by have := bits_xor_n b ones hb (by decide); omega)]
  exact wrapU_small _ (bits_and_n _ _ ha (bits_xor_n b ones hb (by decide)))
def joinW (on : Bool) (a w : Nat) : Nat := if on then a &&& w else a &&& (w ^^^ ones)
theorem joinW_lt (on : Bool) (a w : Nat) (ha : a < 18446744073709551616) (hw : w < 18446744073709551616) : joinW on a w < 18446744073709551616 := by
  unfold joinW
  split
  · exact bits_and_n _ _ ha hw
  · exact bits_and_n _ _ ha (bits_xor_n w ones hw (by decide))
theorem joinW_bits (on : Bool) (a w : Nat) (ha : a < 18446744073709551616) (hw : w < 18446744073709551616) : Go.bits (if on then .and else .andNot) .u64 (a : Int) (w : Int) = (joinW on a w : Int) := by
  cases on with
  | true => exact bits_and_u64_nat a w ha hw
  | false => exact bits_andNot_u64_nat a w ha hw
theorem isTo_row {L : Nat} {A W : Nat → Nat} (on : Bool) (hA : ∀ t, t < L → A t < 18446744073709551616) (hW : ∀ t, t < L → W t < 18446744073709551616) : ∀ x, x ≤ L → IsWalk.isTo on (rowOf L A) (rowOf L W) x = rowOf L (fun t => if t < x then joinW on (A t) (W t) else A t)
  | 0, _ => rowOf_congr (fun t _ => by rw [if_neg (by omega)])
  | x + 1, hx => by
    have hx' : x < L := by omega
    show (IsWalk.isTo on (rowOf L A) (rowOf L W) x).set x (Go.bits (if on then .and else .andNot) .u64 ((IsWalk.isTo on (rowOf L A) (rowOf L W) x).getD x 0) ((rowOf L W).getD x 0)) = _
    rw [isTo_row on hA hW x (by omega), rowOf_getD _ _ _ hx', rowOf_getD _ _ _ hx', if_neg (Nat.lt_irrefl x), joinW_bits _ _ _ (hA x hx') (hW x hx'), rowOf_put]
    refine rowOf_congr (fun t ht => ?_)
    by_cases e : t = x
    · subst e
      rw [if_pos rfl, if_pos (by omega)]
    · rw [if_neg e]
      by_cases h2 : t < x
      · rw [if_pos h2, if_pos (by omega)]
      · rw [if_neg h2, if_neg (by omega)]
theorem isTo_all {L : Nat} {A W : Nat → Nat} (on : Bool) (hA : ∀ t, t < L → A t < 18446744073709551616) (hW : ∀ t, t < L → W t < 18446744073709551616) : IsWalk.isTo on (rowOf L A) (rowOf L W) L = rowOf L (fun t => joinW on (A t) (W t)) := by
  rw [isTo_row on hA hW L (Nat.le_refl _)]
  exact rowOf_congr (fun t ht => by rw [if_pos ht])
theorem joinW_bit (on : Bool) (A W : Nat → Nat) (i : Nat) : bitAt (fun t => joinW on (A t) (W t)) i = (bitAt A i && (bitAt W i == on)) := by
  unfold bitAt joinW
  cases on with
  | true => simp
  | false =>
    simp only [Bool.false_eq_true, if_false, Nat.testBit_and, Nat.testBit_xor, ones_bit, decide_eq_true (Nat.mod_lt i (by decide : 0 < 64))]
    cases (W (i / 64)).testBit (i % 64) <;> simp
theorem says_is (n : Int) (h0 : 0 ≤ n) (h15 : n ≤ 15) (b0 b1 b2 b3 : Bool) :
    decide (((if b0 then 1 else 0) + (if b1 then 2 else 0) + (if b2 then 4 else 0) + (if b3 then 8 else 0) : Int) = n) =
      ((((b0 == (Go.bits .and .i64 n 1 == 1)) && (b1 == (Go.bits .and .i64 (n / 2) 1 == 1))) && (b2 == (Go.bits .and .i64 (n / 4) 1 == 1))) && (b3 == (Go.bits .and .i64 (n / 8) 1 == 1))) := by
  have key : ∀ (q : Fin 16) (b0 b1 b2 b3 : Bool), decide (((if b0 then 1 else 0) + (if b1 then 2 else 0) + (if b2 then 4 else 0) + (if b3 then 8 else 0) : Int) = (q.val : Int)) =
      ((((b0 == (Go.bits .and .i64 (q.val : Int) 1 == 1)) && (b1 == (Go.bits .and .i64 ((q.val : Int) / 2) 1 == 1))) && (b2 == (Go.bits .and .i64 ((q.val : Int) / 4) 1 == 1))) && (b3 == (Go.bits .and .i64 ((q.val : Int) / 8) 1 == 1))) := by decide +kernel
  have := key ⟨n.toNat, by omega⟩ b0 b1 b2 b3
  simp only [Int.toNat_of_nonneg h0] at this
  exact this
def Told (F : FuncId) (n0 n1 n2 n3 : Int) (X0 X1 X2 X3 : List Int) (n m : Int) (Y : List Int) (er : Int) : Prop := ∀ (A0 A1 A2 A3 : Option Addr) (c0 c1 c2 c3 : Nat) (w : World),
  Kd.C (Kd.int .u64) w A0 X0.length X0 → X0.length ≤ c0 → Kd.C (Kd.int .u64) w A1 X1.length X1 → X1.length ≤ c1 → Kd.C (Kd.int .u64) w A2 X2.length X2 → X2.length ≤ c2 → Kd.C (Kd.int .u64) w A3 X3.length X3 → X3.length ≤ c3 →
  Calls Try.prog F #[.agg #[.int .i64 n0, .slice A0 X0.length c0, .int .i64 n1, .slice A1 X1.length c1, .int .i64 n2, .slice A2 X2.length c2, .int .i64 n3, .slice A3 X3.length c3], .int .i64 n] w
    fun e w' => ∃ v, e = .returned (.tuple #[.agg #[.int .i64 m, v], .int .i64 er]) ∧ w'.ownsRow w.heap.size 22 1 v Y.length (nums .u64 Y) ∧ Below w.heap.size w w'
theorem told_nil {F : FuncId} {args : Array Value} {w : World} {er : Int} (h : Calls Try.prog F args w fun e w' => e = .returned (.tuple #[.agg #[.int .i64 0, .slice none 0 0], .int .i64 er]) ∧ Below w.heap.size w w') :
    Calls Try.prog F args w fun e w' => ∃ v, e = .returned (.tuple #[.agg #[.int .i64 0, v], .int .i64 er]) ∧ w'.ownsRow w.heap.size 22 1 v ([] : List Int).length (nums .u64 []) ∧ Below w.heap.size w w' :=
  h.mono fun e w' ⟨h1, h2⟩ => ⟨_, h1, own_nil _ _ _ _, h2⟩
theorem is_agree (n0 n1 n2 n3 n : Int) (X0 X1 X2 X3 : List Int) (h0 : U64 X0) (h1 : U64 X1) (h2 : U64 X2) (h3 : U64 X3) :
    ∃ m Y er, Told 36 n0 n1 n2 n3 X0 X1 X2 X3 n m Y er ∧ Told 35 n0 n1 n2 n3 X0 X1 X2 X3 n m Y er ∧ Y.length ≤ 2000000 := by
  obtain ⟨k, hk⟩ : ∃ k, k = 4000000 := ⟨_, rfl⟩
  obtain ⟨e, f1, f2, hz⟩ := fits_agree [⟨n0, X0⟩, ⟨n1, X1⟩, ⟨n2, X2⟩, ⟨n3, X3⟩] (by simp) (fun j hj => by
    match j, hj with
    | 0, _ => exact h0
    | 1, _ => exact h1
    | 2, _ => exact h2
    | 3, _ => exact h3
    | j + 4, hj => simp at hj; omega) k (by omega)
  by_cases he : e = 0
  · subst he
    by_cases hn : n < 0 ∨ n > 15
    · exact ⟨0, [], 2, fun A0 A1 A2 A3 c0 c1 c2 c3 w a0 b0 a1 b1 a2 b2 a3 b3 => told_nil (IsWalk.is_arg k n0 n1 n2 n3 n A0 A1 A2 A3 X0 X1 X2 X3 c0 c1 c2 c3 w a0 b0 a1 b1 a2 b2 a3 b3 f1 hn),
        fun A0 A1 A2 A3 c0 c1 c2 c3 w a0 b0 a1 b1 a2 b2 a3 b3 => told_nil (RefIs.is_arg k n0 n1 n2 n3 n A0 A1 A2 A3 X0 X1 X2 X3 c0 c1 c2 c3 w a0 b0 a1 b1 a2 b2 a3 b3 f2 hn), by simp⟩
    · obtain ⟨m, Wf, hm, hall⟩ := hz rfl
      have r0 := hall 0 (by simp)
      have r1 := hall 1 (by simp)
      have r2 := hall 2 (by simp)
      have r3 := hall 3 (by simp)
      obtain ⟨q0, g0⟩ := r0
      obtain ⟨q1, g1⟩ := r1
      obtain ⟨q2, g2⟩ := r2
      obtain ⟨q3, g3⟩ := r3
      have x0 : (⟨n0, X0⟩ : S31) = ⟨(m : Int), rowOf (nw m) (Wf 0)⟩ := q0
      have x1 : (⟨n1, X1⟩ : S31) = ⟨(m : Int), rowOf (nw m) (Wf 1)⟩ := q1
      have x2 : (⟨n2, X2⟩ : S31) = ⟨(m : Int), rowOf (nw m) (Wf 2)⟩ := q2
      have x3 : (⟨n3, X3⟩ : S31) = ⟨(m : Int), rowOf (nw m) (Wf 3)⟩ := q3
      injection x0 with y0 z0
      injection x1 with y1 z1
      injection x2 with y2 z2
      injection x3 with y3 z3
      subst y0 y1 y2 y3 z0 z1 z2 z3
      have hL := nw_le hm
      have hnl := n_le m
      have gz := good_not (good_zero m hm)
      obtain ⟨N, hN⟩ : ∃ N, notW m (fun _ => 0) = N := ⟨_, rfl⟩
      have hnot := not_spec (good_zero m hm) k (by omega)
      have hnb : ∀ i, i < m → bitAt N i = true := by
        intro i hi
        rw [← hN, bitAt_not _ i hi]
        simp [bitAt]
      rw [hN] at gz hnot
      obtain ⟨o0, ho0⟩ : ∃ b, (Go.bits .and .i64 n 1 == 1) = b := ⟨_, rfl⟩
      obtain ⟨o1, ho1⟩ : ∃ b, (Go.bits .and .i64 (n / 2) 1 == 1) = b := ⟨_, rfl⟩
      obtain ⟨o2, ho2⟩ : ∃ b, (Go.bits .and .i64 (n / 4) 1 == 1) = b := ⟨_, rfl⟩
      obtain ⟨o3, ho3⟩ : ∃ b, (Go.bits .and .i64 (n / 8) 1 == 1) = b := ⟨_, rfl⟩
      have t0 : ∀ t, t < nw m → joinW o0 (N t) (Wf 0 t) < 18446744073709551616 := fun t ht => joinW_lt _ _ _ (gz.lt t ht) (g0.lt t ht)
      have t1 : ∀ t, t < nw m → joinW o1 (joinW o0 (N t) (Wf 0 t)) (Wf 1 t) < 18446744073709551616 := fun t ht => joinW_lt _ _ _ (t0 t ht) (g1.lt t ht)
      have t2 : ∀ t, t < nw m → joinW o2 (joinW o1 (joinW o0 (N t) (Wf 0 t)) (Wf 1 t)) (Wf 2 t) < 18446744073709551616 := fun t ht => joinW_lt _ _ _ (t1 t ht) (g2.lt t ht)
      have t3 : ∀ t, t < nw m → joinW o3 (joinW o2 (joinW o1 (joinW o0 (N t) (Wf 0 t)) (Wf 1 t)) (Wf 2 t)) (Wf 3 t) < 18446744073709551616 := fun t ht => joinW_lt _ _ _ (t2 t ht) (g3.lt t ht)
      have efin : IsWalk.isTo o3 (IsWalk.isTo o2 (IsWalk.isTo o1 (IsWalk.isTo o0 (rowOf (nw m) N) (rowOf (nw m) (Wf 0)) (nw m)) (rowOf (nw m) (Wf 1)) (nw m)) (rowOf (nw m) (Wf 2)) (nw m)) (rowOf (nw m) (Wf 3)) (nw m) = rowOf (nw m) (fun t => joinW o3 (joinW o2 (joinW o1 (joinW o0 (N t) (Wf 0 t)) (Wf 1 t)) (Wf 2 t)) (Wf 3 t)) := by
        rw [isTo_all o0 gz.lt g0.lt, isTo_all o1 t0 g1.lt, isTo_all o2 t1 g2.lt, isTo_all o3 t2 g3.lt]
      have bfin : ∀ i, bitAt (fun t => joinW o3 (joinW o2 (joinW o1 (joinW o0 (N t) (Wf 0 t)) (Wf 1 t)) (Wf 2 t)) (Wf 3 t)) i = ((((bitAt N i && (bitAt (Wf 0) i == o0)) && (bitAt (Wf 1) i == o1)) && (bitAt (Wf 2) i == o2)) && (bitAt (Wf 3) i == o3)) := by
        intro i
        rw [joinW_bit o3 (fun t => joinW o2 (joinW o1 (joinW o0 (N t) (Wf 0 t)) (Wf 1 t)) (Wf 2 t)), joinW_bit o2 (fun t => joinW o1 (joinW o0 (N t) (Wf 0 t)) (Wf 1 t)), joinW_bit o1 (fun t => joinW o0 (N t) (Wf 0 t)), joinW_bit o0 N]
      have gfin : Rowp.Good m (fun t => joinW o3 (joinW o2 (joinW o1 (joinW o0 (N t) (Wf 0 t)) (Wf 1 t)) (Wf 2 t)) (Wf 3 t)) := by
        refine good_of_bits hm t3 (fun i a b => ?_)
        rw [bfin i, good_high gz i a b]
        simp
      obtain ⟨V, gV, hb, hr⟩ := row_done hm (fun i => decide (RefIs.says (bitAt (Wf 0)) (bitAt (Wf 1)) (bitAt (Wf 2)) (bitAt (Wf 3)) i = n)) (fun _ => false)
      have hV : rowOf (nw m) V = rowOf (nw m) (fun t => joinW o3 (joinW o2 (joinW o1 (joinW o0 (N t) (Wf 0 t)) (Wf 1 t)) (Wf 2 t)) (Wf 3 t)) := by
        refine row_eq gV gfin (fun i hi => ?_)
        rw [hb i hi, bfin i, hnb i hi, Bool.true_and, ← ho0, ← ho1, ← ho2, ← ho3]
        exact says_is n (by omega) (by omega) _ _ _ _
      refine ⟨(m : Int), rowOf (nw m) V, 0, fun A0 A1 A2 A3 c0 c1 c2 c3 w a0 b0 a1 b1 a2 b2 a3 b3 => ?_, fun A0 A1 A2 A3 c0 c1 c2 c3 w a0 b0 a1 b1 a2 b2 a3 b3 => ?_, by rw [rowOf_len]; omega⟩
      · have h := IsWalk.is_ok k (m : Int) n A0 A1 A2 A3 _ _ _ _ (rowOf (nw m) N) (rowOf (nw m) (fun _ => 0)) c0 c1 c2 c3 (nw m) o0 o1 o2 o3 w a0 b0 a1 b1 a2 b2 a3 b3 f1 (by omega) (by omega) (by omega) (rowOf_len _ _) (rowOf_len _ _) (rowOf_len _ _) (rowOf_len _ _) (rowOf_len _ _) ho0 ho1 ho2 ho3 (by rw [blank_spec m hm, rowOf_zero]) hnot
        rw [efin, ← hV] at h
        rw [rowOf_len, rowOf_len, rowOf_len, rowOf_len]
        exact h
      · have bt : ∀ (W : Nat → Nat) (i : Nat), i < m → PB.vivariumref02_bit.f (m : Int) (rowOf (nw m) W) i = some (bitAt W i) := fun W i hi => refbit_spec _ _ _ hL i (by omega)
        have h := RefIs.is_ok k m n A0 A1 A2 A3 _ _ _ _ (rowOf (nw m) V) c0 c1 c2 c3 (nw m) (bitAt (Wf 0)) (bitAt (Wf 1)) (bitAt (Wf 2)) (bitAt (Wf 3)) w a0 b0 a1 b1 a2 b2 a3 b3 f2 (by omega) (by omega) hm (rowOf_len _ _) (rowOf_len _ _) (rowOf_len _ _) (rowOf_len _ _) (bt _) (bt _) (bt _) (bt _) (hr k (by omega))
        simp only [rowOf_len] at h ⊢
        exact h
  · exact ⟨0, [], e, fun A0 A1 A2 A3 c0 c1 c2 c3 w a0 b0 a1 b1 a2 b2 a3 b3 => told_nil (IsWalk.is_bad k n0 n1 n2 n3 n e A0 A1 A2 A3 X0 X1 X2 X3 c0 c1 c2 c3 w a0 b0 a1 b1 a2 b2 a3 b3 f1 he),
      fun A0 A1 A2 A3 c0 c1 c2 c3 w a0 b0 a1 b1 a2 b2 a3 b3 => told_nil (RefIs.is_bad k n0 n1 n2 n3 n e A0 A1 A2 A3 X0 X1 X2 X3 c0 c1 c2 c3 w a0 b0 a1 b1 a2 b2 a3 b3 f2 he), by simp⟩
end Go.Proofs.Ytlghmadoogblcaa.IsPlain
end
section
namespace Go.Proofs.Ytlghmadoogblcaa.PW
open Go.RowKit Go.Proofs.YtlghmadoogblcaaW.PrintWords Go.Proofs.YtlghmadoogblcaaW.PrintLast Go.Proofs.YtlghmadoogblcaaW.PrintMore
attribute [local go_sem] max2_int min2_int max_two min_two max_three min_three max_four min_four   -- for this text's walks alone
set_option linter.unusedVariables false
set_option linter.unusedSimpArgs false
def vivariumlaw02_alive.f (k : Nat)  : Option (Bool) := (words_Of.f k (([true, false, true] : List Bool))).bind fun bt204 => ((words_Up.f k bt204.1 bt204.2.1 true).bind fun bt210 => ((words_Ones.f k bt210.1 bt210.2.1).bind fun bt217 => ((words_Half.f 12 10).bind fun bt219 => (if bt204.2.2 = 0 then (if bt210.2.2.2 = 0 then (if bt217.2 = 0 then (if bt204.1 = 3 then (if (bt204.2.1.length : Int) = 1 then (if 0 < (bt204.2.1.length : Int) then (if (rd bt204.2.1 0) = 5 then (if bt210.2.2.1 = true then (if bt217.1 = 2 then ((words_Get.f bt210.1 bt210.2.1 1).bind fun t222 => (if t222 = true then ((words_Get.f bt210.1 bt210.2.1 2).bind fun t223 => (if t223 = true then (some false) else (if bt219.1 = 6 then (some (bt219.2 == 8)) else (some false)))) else (some false))) else (some false)) else (some false)) else (some false)) else (none)) else (some false)) else (some false)) else (some false)) else (some false)) else (some false)))))
theorem vivariumlaw02_alive.mono : ∀ k, LeO (vivariumlaw02_alive.f k ) (vivariumlaw02_alive.f (k + 1) ) := by
  intro  k
  unfold vivariumlaw02_alive.f
  repeat' first
      | (with_reducible exact words_Of.mono _ _)
      | (with_reducible exact words_Ones.mono _ _ _)
      | (with_reducible exact words_Up.mono _ _ _ _)
      | (with_reducible exact LeO.refl _)
      | (with_reducible exact LeO.none _)
      | (with_reducible refine LeO.ite ?_ ?_)
      | (with_reducible refine LeO.bind ?_ (fun _ => ?_))
      | exact words_Of.mono _ _
      | exact words_Ones.mono _ _ _
      | exact words_Up.mono _ _ _ _
      | exact LeO.none _
      | refine LeO.ite ?_ ?_
      | refine LeO.bind ?_ (fun _ => ?_)
set_option maxHeartbeats 8000000 in
set_option maxRecDepth 100000 in
theorem vivariumlaw02_alive.calls (k : Nat)  (r : Bool) (w : World) (hrt_ : r = true) (h : vivariumlaw02_alive.f k  = some r) :
    Calls Try.prog 13 #[] w fun e w' => e = .returned (.bool r) ∧ Below w.heap.size w w' := by
  have hu31 := Try.underlying31
  have HB := Aside0.mk (Below.refl w.heap.size w)
  have H : ((words_Of.f k (([true, false, true] : List Bool))).bind fun bt204 => ((words_Up.f k bt204.1 bt204.2.1 true).bind fun bt210 => ((words_Ones.f k bt210.1 bt210.2.1).bind fun bt217 => ((words_Half.f 12 10).bind fun bt219 => (if bt204.2.2 = 0 then (if bt210.2.2.2 = 0 then (if bt217.2 = 0 then (if bt204.1 = 3 then (if (bt204.2.1.length : Int) = 1 then (if 0 < (bt204.2.1.length : Int) then (if (rd bt204.2.1 0) = 5 then (if bt210.2.2.1 = true then (if bt217.1 = 2 then ((words_Get.f bt210.1 bt210.2.1 1).bind fun t222 => (if t222 = true then ((words_Get.f bt210.1 bt210.2.1 2).bind fun t223 => (if t223 = true then (some false) else (if bt219.1 = 6 then (some (bt219.2 == 8)) else (some false)))) else (some false))) else (some false)) else (some false)) else (some false)) else (none)) else (some false)) else (some false)) else (some false)) else (some false)) else (some false)))))) = some r := h
  clear h
  obtain ⟨y201, hy201⟩ : ∃ y_ : List Bool, y_ = (([true, false, true] : List Bool)) := ⟨_, rfl⟩
  replace H : ((words_Of.f k y201).bind fun bt204 => ((words_Up.f k bt204.1 bt204.2.1 true).bind fun bt210 => ((words_Ones.f k bt210.1 bt210.2.1).bind fun bt217 => ((words_Half.f 12 10).bind fun bt219 => (if bt204.2.2 = 0 then (if bt210.2.2.2 = 0 then (if bt217.2 = 0 then (if bt204.1 = 3 then (if (bt204.2.1.length : Int) = 1 then (if 0 < (bt204.2.1.length : Int) then (if (rd bt204.2.1 0) = 5 then (if bt210.2.2.1 = true then (if bt217.1 = 2 then ((words_Get.f bt210.1 bt210.2.1 1).bind fun t222 => (if t222 = true then ((words_Get.f bt210.1 bt210.2.1 2).bind fun t223 => (if t223 = true then (some false) else (if bt219.1 = 6 then (some (bt219.2 == 8)) else (some false)))) else (some false))) else (some false)) else (some false)) else (some false)) else (none)) else (some false)) else (some false)) else (some false)) else (some false)) else (some false)))))) = some r := by first | (rw [hy201]; with_reducible exact H) | (have H2_ := (Option.bind_some _ _).symm.trans H; rw [hy201]; with_reducible exact H2_) | (have H2_ := (Option.bind_some _ _).symm.trans H; with_reducible exact H2_) | with_reducible exact H | (rw [hy201]; exact H) | exact H
  have Ny201 := Aside0.mk hy201
  clear hy201
  replace H := Option.bind_eq_some_iff.mp H
  obtain ⟨⟨t204, t205, t208⟩, A10, H⟩ := H
  replace H : ((words_Up.f k t204 t205 true).bind fun bt210 => ((words_Ones.f k bt210.1 bt210.2.1).bind fun bt217 => ((words_Half.f 12 10).bind fun bt219 => (if t208 = 0 then (if bt210.2.2.2 = 0 then (if bt217.2 = 0 then (if t204 = 3 then (if (t205.length : Int) = 1 then (if 0 < (t205.length : Int) then (if (rd t205 0) = 5 then (if bt210.2.2.1 = true then (if bt217.1 = 2 then ((words_Get.f bt210.1 bt210.2.1 1).bind fun t222 => (if t222 = true then ((words_Get.f bt210.1 bt210.2.1 2).bind fun t223 => (if t223 = true then (some false) else (if bt219.1 = 6 then (some (bt219.2 == 8)) else (some false)))) else (some false))) else (some false)) else (some false)) else (some false)) else (none)) else (some false)) else (some false)) else (some false)) else (some false)) else (some false))))) = some r := H
  have A1 := Aside0.mk A10
  clear A10
  replace H := Option.bind_eq_some_iff.mp H
  obtain ⟨⟨t210, t211, t214, t215⟩, A20, H⟩ := H
  replace H : ((words_Ones.f k t210 t211).bind fun bt217 => ((words_Half.f 12 10).bind fun bt219 => (if t208 = 0 then (if t215 = 0 then (if bt217.2 = 0 then (if t204 = 3 then (if (t205.length : Int) = 1 then (if 0 < (t205.length : Int) then (if (rd t205 0) = 5 then (if t214 = true then (if bt217.1 = 2 then ((words_Get.f t210 t211 1).bind fun t222 => (if t222 = true then ((words_Get.f t210 t211 2).bind fun t223 => (if t223 = true then (some false) else (if bt219.1 = 6 then (some (bt219.2 == 8)) else (some false)))) else (some false))) else (some false)) else (some false)) else (some false)) else (none)) else (some false)) else (some false)) else (some false)) else (some false)) else (some false)))) = some r := H
  have A2 := Aside0.mk A20
  clear A20
  replace H := Option.bind_eq_some_iff.mp H
  obtain ⟨⟨t217, t218⟩, A30, H⟩ := H
  replace H : ((words_Half.f 12 10).bind fun bt219 => (if t208 = 0 then (if t215 = 0 then (if t218 = 0 then (if t204 = 3 then (if (t205.length : Int) = 1 then (if 0 < (t205.length : Int) then (if (rd t205 0) = 5 then (if t214 = true then (if t217 = 2 then ((words_Get.f t210 t211 1).bind fun t222 => (if t222 = true then ((words_Get.f t210 t211 2).bind fun t223 => (if t223 = true then (some false) else (if bt219.1 = 6 then (some (bt219.2 == 8)) else (some false)))) else (some false))) else (some false)) else (some false)) else (some false)) else (none)) else (some false)) else (some false)) else (some false)) else (some false)) else (some false))) = some r := H
  have A3 := Aside0.mk A30
  clear A30
  replace H := Option.bind_eq_some_iff.mp H
  obtain ⟨⟨t219, t220⟩, A40, H⟩ := H
  replace H : (if t208 = 0 then (if t215 = 0 then (if t218 = 0 then (if t204 = 3 then (if (t205.length : Int) = 1 then (if 0 < (t205.length : Int) then (if (rd t205 0) = 5 then (if t214 = true then (if t217 = 2 then ((words_Get.f t210 t211 1).bind fun t222 => (if t222 = true then ((words_Get.f t210 t211 2).bind fun t223 => (if t223 = true then (some false) else (if t219 = 6 then (some (t220 == 8)) else (some false)))) else (some false))) else (some false)) else (some false)) else (some false)) else (none)) else (some false)) else (some false)) else (some false)) else (some false)) else (some false)) = some r := H
  have A4 := Aside0.mk A40
  clear A40
  by_cases c5 : t208 = 0
  · rw [if_pos c5] at H
    have c5b0 : (t208 == 0) = true := beq_iff_eq.mpr c5
    have c5b1 : (t208 != 0) = false := bne_eq_false_iff_eq.mpr c5
    clear c5
    by_cases c6 : t215 = 0
    · rw [if_pos c6] at H
      have c6b0 : (t215 == 0) = true := beq_iff_eq.mpr c6
      have c6b1 : (t215 != 0) = false := bne_eq_false_iff_eq.mpr c6
      clear c6
      by_cases c7 : t218 = 0
      · rw [if_pos c7] at H
        have c7b0 : (t218 == 0) = true := beq_iff_eq.mpr c7
        have c7b1 : (t218 != 0) = false := bne_eq_false_iff_eq.mpr c7
        clear c7
        by_cases c8 : t204 = 3
        · rw [if_pos c8] at H
          have c8b0 : (t204 == 3) = true := beq_iff_eq.mpr c8
          have c8b1 : (t204 != 3) = false := bne_eq_false_iff_eq.mpr c8
          clear c8
          by_cases c9 : (t205.length : Int) = 1
          · rw [if_pos c9] at H
            have c9b0 : ((t205.length : Int) == 1) = true := beq_iff_eq.mpr c9
            have c9b1 : ((t205.length : Int) != 1) = false := bne_eq_false_iff_eq.mpr c9
            clear c9
            by_cases c10 : 0 < (t205.length : Int)
            · rw [if_pos c10] at H
              have c10b0 : decide (0 < (t205.length : Int)) = true := decide_eq_true c10
              have c10b1 : decide (0 < t205.length) = true := decide_eq_true (by omega)
              clear c10
              by_cases c11 : (rd t205 0) = 5
              · rw [if_pos c11] at H
                have c11b0 : ((rd t205 0) == 5) = true := beq_iff_eq.mpr c11
                have c11b1 : ((rd t205 0) != 5) = false := bne_eq_false_iff_eq.mpr c11
                clear c11
                by_cases c12 : t214 = true
                · subst c12
                  have H1 : (if t217 = 2 then ((words_Get.f t210 t211 1).bind fun t222 => (if t222 = true then ((words_Get.f t210 t211 2).bind fun t223 => (if t223 = true then (some false) else (if t219 = 6 then (some (t220 == 8)) else (some false)))) else (some false))) else (some false)) = some r := by rw [if_pos rfl] at H; exact H
                  clear H
                  have H := H1
                  clear H1
                  by_cases c13 : t217 = 2
                  · rw [if_pos c13] at H
                    have c13b0 : (t217 == 2) = true := beq_iff_eq.mpr c13
                    have c13b1 : (t217 != 2) = false := bne_eq_false_iff_eq.mpr c13
                    clear c13
                    replace H := Option.bind_eq_some_iff.mp H
                    obtain ⟨t222, A140, H⟩ := H
                    replace H : (if t222 = true then ((words_Get.f t210 t211 2).bind fun t223 => (if t223 = true then (some false) else (if t219 = 6 then (some (t220 == 8)) else (some false)))) else (some false)) = some r := H
                    have A14 := Aside0.mk A140
                    clear A140
                    by_cases c15 : t222 = true
                    · subst c15
                      have H1 : ((words_Get.f t210 t211 2).bind fun t223 => (if t223 = true then (some false) else (if t219 = 6 then (some (t220 == 8)) else (some false)))) = some r := by rw [if_pos rfl] at H; exact H
                      clear H
                      have H := H1
                      clear H1
                      replace H := Option.bind_eq_some_iff.mp H
                      obtain ⟨t223, A160, H⟩ := H
                      replace H : (if t223 = true then (some false) else (if t219 = 6 then (some (t220 == 8)) else (some false))) = some r := H
                      have A16 := Aside0.mk A160
                      clear A160
                      by_cases c17 : t223 = true
                      · subst c17
                        have H1 : (some false) = some r := by rw [if_pos rfl] at H; exact H
                        exact absurd (Option.some.inj H1) (by rw [hrt_]; decide)
                      · replace c17 := Bool.eq_false_iff.mpr c17
                        subst c17
                        have H1 : (if t219 = 6 then (some (t220 == 8)) else (some false)) = some r := by rw [if_neg (show ¬ (false = true) by decide)] at H; exact H
                        clear H
                        have H := H1
                        clear H1
                        by_cases c36 : t219 = 6
                        · rw [if_pos c36] at H
                          have c36b0 : (t219 == 6) = true := beq_iff_eq.mpr c36
                          have c36b1 : (t219 != 6) = false := bne_eq_false_iff_eq.mpr c36
                          clear c36
                          obtain rfl := Option.some.inj H
                          go_enter Try.func13, Try.ntmps13
                          go_wp2_with (first | ((with_reducible refine gate_dst (N := 11) rfl ?_); (try (refine gate_guard (by rfl) ?_; dsimp only)); refine Kd.R_lit Kd.bool _ 4 ?hg (N := 11) ?hd (xs := ([true, false, true] : List Bool)) (inner := [.bool true, .bool false, .bool true]) (ok := fun _ => True) (okp := fun _ => True) ?hr ?hp (fun _ hk => hk) trivial (Below.refl _ _) (Nat.le_refl _) (by simp) ?_; (case hd => rfl); (case hg => rfl); (case hr => first | (go_simp; done) | (go_simp; rfl)); (case hp => exact (Reps.one (show Kd.M Kd.bool _ _ _ true [.bool true] from rfl) (Reps.one (show Kd.M Kd.bool _ _ _ false [.bool false] from rfl) (Reps.one (show Kd.M Kd.bool _ _ _ true [.bool true] from rfl) (Reps.none _ _))))); intro v202 w37 ho38 hb hg_ hnew_; clear hg_ hnew_; (first | rw [← Ny201.out] at ho38 | (simp only [Int.reduceToNat] at ho38; rw [← Ny201.out] at ho38)); have n0_ := Aside0.mk (Kd.R_lower ho38 (below_size (by repeat (first | (with_reducible first | exact HB.out | apply below_alloc | apply pw_below_drewN | apply below_drew1) | exact HB.out)))); have n1_ := Aside0.mk (below_step (by repeat (first | (with_reducible first | exact HB.out | apply below_alloc | apply pw_below_drewN | apply below_drew1) | exact HB.out)) hb); clear HB; have HO203 := n0_; have HB := n1_; clear n0_ n1_; clear hb ho38; obtain ⟨Ao39, co39, eo39⟩ := Kd.R_slice HO203.out; subst eo39) | ((with_reducible refine gate_callee (f := 18) rfl ?_); refine goesL_ (some 12) rfl rfl Try.func18 (by kernel_rfl) rfl #[.slice Ao39 y201.length co39] rfl (by (try simp only [List.map_toArray, List.map_cons, List.map_nil]); first | done | rfl | (simp only [List.length_drop, List.length_take]; rfl)) ?_; (with_reducible refine (words_Of.calls k _ _ y201 t204 t205 t208 _ ?side1 ?side2 A1.out).mono ?_); (case side1 => repeat (first | exact (Kd.R_reads' HO203.out).2.2 | (with_reducible refine Kd.C_alloc ?_ _) | (with_reducible refine Kd.C_drewN ?_ _) | (with_reducible refine Kd.C_drew ?_))); (case side2 => exact (Kd.R_reads' HO203.out).2.1); rintro e w40 ⟨v206, rfl, ho0, hb⟩; refine ⟨_, rfl, ?_⟩; have n0_ := Aside0.mk (Kd.R_below (by (with_reducible repeat (first | apply Kd.R_alloc | apply Kd.R_drewN | apply Kd.R_drew)); exact HO203.out) hb); have n1_ := Aside0.mk (Kd.R_lower ho0 (below_size (by repeat (first | (with_reducible first | exact HB.out | apply below_alloc | apply pw_below_drewN | apply below_drew1) | exact HB.out)))); have n2_ := Aside0.mk (below_step (by repeat (first | (with_reducible first | exact HB.out | apply below_alloc | apply pw_below_drewN | apply below_drew1) | exact HB.out)) hb); clear HO203; clear HB; have HO203 := n0_; have HO207 := n1_; have HB := n2_; clear n0_ n1_ n2_; (try clear hb); (try clear hb2); (try clear hk); (try clear hi); (try clear ho0)) | ((with_reducible refine gate_dst (N := 1) rfl ?_); (try (refine gate_guard (by rfl) ?_; dsimp only)); refine box_event ?hg (N := 1) ?hd (cs := #[.int .i64 0, .slice none 0 0]) (t := 31) ?hr ?_; (case hd => rfl); (case hg => rfl); (case hr => first | (go_simp; done) | (go_simp; rfl)); intro gb209 hg w41 hbox hb; have n0_ := Aside0.mk (Kd.R_below (by (with_reducible repeat (first | apply Kd.R_alloc | apply Kd.R_drewN | apply Kd.R_drew)); exact HO203.out) hb); have n1_ := Aside0.mk (Kd.R_below (by (with_reducible repeat (first | apply Kd.R_alloc | apply Kd.R_drewN | apply Kd.R_drew)); exact HO207.out) hb); have n2_ := Aside0.mk (below_step (by repeat (first | (with_reducible first | exact HB.out | apply below_alloc | apply pw_below_drewN | apply below_drew1) | exact HB.out)) hb); have n3_ := Aside0.mk (hbox); have n4_ := Aside0.mk ((by rw [hg]; exact (below_size (by repeat (first | (with_reducible first | exact HB.out | apply below_alloc | apply pw_below_drewN | apply below_drew1) | exact HB.out))) : w.heap.size ≤ gb209)); have n5_ := Aside0.mk ((by rw [hg]; exact (below_size (by repeat (first | (with_reducible first | exact HB.out | apply below_alloc | apply pw_below_drewN | apply below_drew1) | exact HB.out))) : w.heap.size ≤ gb209)); clear HO203; clear HO207; clear HB; have HO203 := n0_; have HO207 := n1_; have HB := n2_; have BK209 := n3_; have GW209 := n4_; have GE209 := n5_; clear n0_ n1_ n2_ n3_ n4_ n5_; clear hb hbox hg; have hcz42_0 : w41.cell? ⟨gb209, 0, none⟩ = some (.int .i64 0) := (blk_cell BK209.out 0).trans rfl; have hcz42_1 : w41.cell? ⟨gb209, 1, none⟩ = some (.slice none 0 0) := (blk_cell BK209.out 1).trans rfl; have hfz42_0 := blk_frozen BK209.out 0; have hfz42_1 := blk_frozen BK209.out 1; obtain ⟨Ao43, co43, eo43⟩ := Kd.R_slice HO207.out; subst eo43) | ((with_reducible refine gate_callee (f := 45) rfl ?_); refine goesL_ (some 17) rfl rfl Try.func45 (by kernel_rfl) rfl #[.agg #[.int .i64 t204, .slice Ao43 t205.length co43], .bool true] rfl (by (try simp only [List.map_toArray, List.map_cons, List.map_nil]); first | done | rfl | (simp only [List.length_drop, List.length_take]; rfl)) ?_; (with_reducible refine (words_Up.calls k t204 _ _ t205 true t210 t211 true t215 _ ?side1 ?side2 A2.out).mono ?_); (case side1 => refine (Kd.R_reads' (e := 22) (base := w.heap.size) (ok := fun k_ => True) (n := t205.length) (c := co43) ?_).2.2; exact (by (with_reducible repeat (first | apply Kd.R_alloc | apply Kd.R_drewN | apply Kd.R_drew)); exact (Kd.R_mono (Kd.R_far (p := ⟨gb209, 1, none⟩) (Kd.R_far (p := ⟨gb209, 0, none⟩) (Kd.R_types HO207.out BK209.out (by decide)) (fun _ hk => hk.2) (.int .i64 t204)) (fun _ hk => hk.2) (.slice Ao43 t205.length co43)) (fun _ h_ => h_.1)))); (case side2 => exact (Kd.R_reads' HO207.out).2.1); rintro e w44 ⟨v212, rfl, ho0, hb⟩; refine ⟨_, rfl, ?_⟩; have n0_ := Aside0.mk (Kd.R_below (by (with_reducible repeat (first | apply Kd.R_alloc | apply Kd.R_drewN | apply Kd.R_drew)); exact (Kd.R_mono (Kd.R_far (p := ⟨gb209, 1, none⟩) (Kd.R_far (p := ⟨gb209, 0, none⟩) (Kd.R_types HO203.out BK209.out (by decide)) (fun _ hk => hk.2) (.int .i64 t204)) (fun _ hk => hk.2) (.slice Ao43 t205.length co43)) (fun _ h_ => h_.1))) hb); have n1_ := Aside0.mk (Kd.R_elder' (by (with_reducible repeat (first | apply Kd.R_alloc | apply Kd.R_drewN | apply Kd.R_drew)); exact (Kd.R_mono (Kd.R_far (p := ⟨gb209, 1, none⟩) (Kd.R_far (p := ⟨gb209, 0, none⟩) (Kd.R_types HO207.out BK209.out (by decide)) (fun _ hk => hk.2) (.int .i64 t204)) (fun _ hk => hk.2) (.slice Ao43 t205.length co43)) (fun _ h_ => h_.1))) (Kd.R_base ho0) hb); have n2_ := Aside0.mk (Kd.R_lower (Kd.R_new' ho0 (Kd.R_lt (by (with_reducible repeat (first | apply Kd.R_alloc | apply Kd.R_drewN | apply Kd.R_drew)); exact (Kd.R_mono (Kd.R_far (p := ⟨gb209, 1, none⟩) (Kd.R_far (p := ⟨gb209, 0, none⟩) (Kd.R_types HO207.out BK209.out (by decide)) (fun _ hk => hk.2) (.int .i64 t204)) (fun _ hk => hk.2) (.slice Ao43 t205.length co43)) (fun _ h_ => h_.1))))) (below_size (by repeat (first | (with_reducible first | exact HB.out | apply below_alloc | apply pw_below_drewN | apply below_drew1 | refine below_set ?_ GE209.out) | exact HB.out)))); have n3_ := Aside0.mk (blk_below (g := gb209) (o := .cells #[.int .i64 t204, .slice Ao43 t205.length co43] 31 (0, 0)) (by (with_reducible repeat (first | refine blk_drewN ?_ _ | refine blk_drew ?_ | refine blk_alloc ?_ _)); refine blk_put (cs := #[.int .i64 t204, .slice none 0 0]) ?_ 1 _ rfl; (with_reducible repeat (first | refine blk_drewN ?_ _ | refine blk_drew ?_ | refine blk_alloc ?_ _)); refine blk_put (cs := #[.int .i64 0, .slice none 0 0]) ?_ 0 _ rfl; (with_reducible repeat (first | refine blk_drewN ?_ _ | refine blk_drew ?_ | refine blk_alloc ?_ _)); exact BK209.out) hb); have n4_ := Aside0.mk (below_step (by repeat (first | (with_reducible first | exact HB.out | apply below_alloc | apply pw_below_drewN | apply below_drew1 | refine below_set ?_ GE209.out) | exact HB.out)) hb); clear HO203; clear HO207; clear BK209; clear HB; have HO203 := n0_; have HO207 := n1_; have HO213 := n2_; have BK209 := n3_; have HB := n4_; clear n0_ n1_ n2_ n3_ n4_; (try clear hb); (try clear hb2); (try clear hk); (try clear hi); (try clear ho0)) | ((with_reducible refine gate_dst (N := 3) rfl ?_); (try (refine gate_guard (by rfl) ?_; dsimp only)); refine box_event ?hg (N := 3) ?hd (cs := #[.int .i64 0, .slice none 0 0]) (t := 31) ?hr ?_; (case hd => rfl); (case hg => rfl); (case hr => first | (go_simp; done) | (go_simp; rfl)); intro gb216 hg w45 hbox hb; have n0_ := Aside0.mk (Kd.R_below (by (with_reducible repeat (first | apply Kd.R_alloc | apply Kd.R_drewN | apply Kd.R_drew)); exact HO203.out) hb); have n1_ := Aside0.mk (Kd.R_below (by (with_reducible repeat (first | apply Kd.R_alloc | apply Kd.R_drewN | apply Kd.R_drew)); exact HO207.out) hb); have n2_ := Aside0.mk (Kd.R_below (by (with_reducible repeat (first | apply Kd.R_alloc | apply Kd.R_drewN | apply Kd.R_drew)); exact HO213.out) hb); have n3_ := Aside0.mk (blk_below (g := gb209) (o := .cells #[.int .i64 t204, .slice Ao43 t205.length co43] 31 (0, 0)) (by (with_reducible repeat (first | refine blk_drewN ?_ _ | refine blk_drew ?_ | refine blk_alloc ?_ _)); exact BK209.out) hb); have n4_ := Aside0.mk (below_step (by repeat (first | (with_reducible first | exact HB.out | apply below_alloc | apply pw_below_drewN | apply below_drew1 | refine below_set ?_ GE209.out) | exact HB.out)) hb); have n5_ := Aside0.mk (hbox); have n6_ := Aside0.mk ((by rw [hg]; exact (below_size (by repeat (first | (with_reducible first | exact HB.out | apply below_alloc | apply pw_below_drewN | apply below_drew1 | refine below_set ?_ GE209.out) | exact HB.out))) : w.heap.size ≤ gb216)); have n7_ := Aside0.mk ((by rw [hg]; exact (below_size (by repeat (first | (with_reducible first | exact HB.out | apply below_alloc | apply pw_below_drewN | apply below_drew1 | refine below_set ?_ GE209.out) | exact HB.out))) : w.heap.size ≤ gb216)); have n8_ := Aside0.mk ((by rw [hg]; exact Nat.ne_of_lt (blk_lt (g := gb209) (o := .cells #[.int .i64 t204, .slice Ao43 t205.length co43] 31 (0, 0)) (by (with_reducible repeat (first | refine blk_drewN ?_ _ | refine blk_drew ?_ | refine blk_alloc ?_ _)); exact BK209.out)) : gb209 ≠ gb216)); have n9_ := Aside0.mk ((by rw [hg]; exact Nat.ne_of_gt (blk_lt (g := gb209) (o := .cells #[.int .i64 t204, .slice Ao43 t205.length co43] 31 (0, 0)) (by (with_reducible repeat (first | refine blk_drewN ?_ _ | refine blk_drew ?_ | refine blk_alloc ?_ _)); exact BK209.out)) : gb216 ≠ gb209)); clear HO203; clear HO207; clear HO213; clear BK209; clear HB; have HO203 := n0_; have HO207 := n1_; have HO213 := n2_; have BK209 := n3_; have HB := n4_; have BK216 := n5_; have GW216 := n6_; have GE216 := n7_; have NB209_216 := n8_; have NB216_209 := n9_; clear n0_ n1_ n2_ n3_ n4_ n5_ n6_ n7_ n8_ n9_; clear hb hbox hg; have hnb46 := NB216_209.out; have hnc46 := NB209_216.out; have hcz47_0 : w45.cell? ⟨gb216, 0, none⟩ = some (.int .i64 0) := (blk_cell BK216.out 0).trans rfl; have hcz47_1 : w45.cell? ⟨gb216, 1, none⟩ = some (.slice none 0 0) := (blk_cell BK216.out 1).trans rfl; have hfz47_0 := blk_frozen BK216.out 0; have hfz47_1 := blk_frozen BK216.out 1; obtain ⟨Ao48, co48, eo48⟩ := Kd.R_slice HO213.out; subst eo48) | ((with_reducible refine gate_callee (f := 46) rfl ?_); refine goesL_ (some 23) rfl rfl Try.func46 (by kernel_rfl) rfl #[.agg #[.int .i64 t210, .slice Ao48 t211.length co48]] rfl (by (try simp only [List.map_toArray, List.map_cons, List.map_nil]); first | done | rfl | (simp only [List.length_drop, List.length_take]; rfl)) ?_; (with_reducible refine (words_Ones.calls k t210 _ _ t211 t217 t218 _ ?side1 ?side2 A3.out).mono ?_); (case side1 => refine (Kd.R_reads' (e := 22) (base := w.heap.size) (ok := fun k_ => (True ∧ some k_ ≠ (.slice Ao43 t205.length co43 : Value).ownBlock)) (n := t211.length) (c := co48) ?_).2.2; exact (by (with_reducible repeat (first | apply Kd.R_alloc | apply Kd.R_drewN | apply Kd.R_drew)); exact (Kd.R_mono (Kd.R_far (p := ⟨gb216, 1, none⟩) (Kd.R_far (p := ⟨gb216, 0, none⟩) (Kd.R_types HO213.out BK216.out (by decide)) (fun _ hk => hk.2) (.int .i64 t210)) (fun _ hk => hk.2) (.slice Ao48 t211.length co48)) (fun _ h_ => h_.1)))); (case side2 => exact (Kd.R_reads' HO213.out).2.1); rintro e w49 ⟨rfl, hb⟩; refine ⟨_, rfl, ?_⟩; have n0_ := Aside0.mk (Kd.R_below (by (with_reducible repeat (first | apply Kd.R_alloc | apply Kd.R_drewN | apply Kd.R_drew)); exact (Kd.R_mono (Kd.R_far (p := ⟨gb216, 1, none⟩) (Kd.R_far (p := ⟨gb216, 0, none⟩) (Kd.R_types HO203.out BK216.out (by decide)) (fun _ hk => hk.2) (.int .i64 t210)) (fun _ hk => hk.2) (.slice Ao48 t211.length co48)) (fun _ h_ => h_.1))) hb); have n1_ := Aside0.mk (Kd.R_below (by (with_reducible repeat (first | apply Kd.R_alloc | apply Kd.R_drewN | apply Kd.R_drew)); exact (Kd.R_mono (Kd.R_far (p := ⟨gb216, 1, none⟩) (Kd.R_far (p := ⟨gb216, 0, none⟩) (Kd.R_types HO207.out BK216.out (by decide)) (fun _ hk => hk.2) (.int .i64 t210)) (fun _ hk => hk.2) (.slice Ao48 t211.length co48)) (fun _ h_ => h_.1))) hb); have n2_ := Aside0.mk (Kd.R_below (by (with_reducible repeat (first | apply Kd.R_alloc | apply Kd.R_drewN | apply Kd.R_drew)); exact (Kd.R_mono (Kd.R_far (p := ⟨gb216, 1, none⟩) (Kd.R_far (p := ⟨gb216, 0, none⟩) (Kd.R_types HO213.out BK216.out (by decide)) (fun _ hk => hk.2) (.int .i64 t210)) (fun _ hk => hk.2) (.slice Ao48 t211.length co48)) (fun _ h_ => h_.1))) hb); have n3_ := Aside0.mk (blk_below (g := gb209) (o := .cells #[.int .i64 t204, .slice Ao43 t205.length co43] 31 (0, 0)) (by (with_reducible repeat (first | refine blk_drewN ?_ _ | refine blk_drew ?_ | refine blk_alloc ?_ _)); refine blk_far ?_ NB209_216.out _; (with_reducible repeat (first | refine blk_drewN ?_ _ | refine blk_drew ?_ | refine blk_alloc ?_ _)); refine blk_far ?_ NB209_216.out _; (with_reducible repeat (first | refine blk_drewN ?_ _ | refine blk_drew ?_ | refine blk_alloc ?_ _)); exact BK209.out) hb); have n4_ := Aside0.mk (blk_below (g := gb216) (o := .cells #[.int .i64 t210, .slice Ao48 t211.length co48] 31 (0, 0)) (by (with_reducible repeat (first | refine blk_drewN ?_ _ | refine blk_drew ?_ | refine blk_alloc ?_ _)); refine blk_put (cs := #[.int .i64 t210, .slice none 0 0]) ?_ 1 _ rfl; (with_reducible repeat (first | refine blk_drewN ?_ _ | refine blk_drew ?_ | refine blk_alloc ?_ _)); refine blk_put (cs := #[.int .i64 0, .slice none 0 0]) ?_ 0 _ rfl; (with_reducible repeat (first | refine blk_drewN ?_ _ | refine blk_drew ?_ | refine blk_alloc ?_ _)); exact BK216.out) hb); have n5_ := Aside0.mk (below_step (by repeat (first | (with_reducible first | exact HB.out | apply below_alloc | apply pw_below_drewN | apply below_drew1 | refine below_set ?_ GE209.out | refine below_set ?_ GE216.out) | exact HB.out)) hb); clear HO203; clear HO207; clear HO213; clear BK209; clear BK216; clear HB; have HO203 := n0_; have HO207 := n1_; have HO213 := n2_; have BK209 := n3_; have BK216 := n4_; have HB := n5_; clear n0_ n1_ n2_ n3_ n4_ n5_; (try clear hb); (try clear hb2); (try clear hk); (try clear hi)) | ((with_reducible refine gate_callee (f := 14) rfl ?_); refine goesL_ (some 27) rfl rfl Try.func14 (by kernel_rfl) rfl #[.int .u64 12, .int .u64 10] rfl (by (try simp only [List.map_toArray, List.map_cons, List.map_nil]); first | done | rfl | (simp only [List.length_drop, List.length_take]; rfl)) ?_; (with_reducible refine (words_Half.calls 12 10 t219 t220 _ A4.out).mono ?_); rintro e w' ⟨rfl, ⟨nd, rfl⟩⟩; refine ⟨_, rfl, ?_⟩; have hcz50_0 : w49.cell? ⟨gb209, 0, none⟩ = some (.int .i64 t204) := (blk_cell BK209.out 0).trans rfl; have hcz50_1 : w49.cell? ⟨gb209, 1, none⟩ = some (.slice Ao43 t205.length co43) := (blk_cell BK209.out 1).trans rfl; have hfz50_0 := blk_frozen BK209.out 0; have hfz50_1 := blk_frozen BK209.out 1; have p221 : 0 ≤ (0 : Int) := (by omega); have q221 : 0 < (t205.length : Int) := of_decide_eq_true (by first | (with_reducible assumption) | assumption); obtain ⟨ad221, e221, hx221_0⟩ := Kd.at_int (Kd.R_reads' HO207.out).2.2 0 p221 q221; cases e221; have qi221 : (0 < t205.length) = True := eq_true (by omega); (try rw [show ((0 : Int)).toNat = 0 from rfl] at hx221_0); (try rw [Addr.add_zero'] at hx221_0); replace p221 := eq_true p221; replace q221 := eq_true q221; have hcz51_0 : w49.cell? ⟨gb216, 0, none⟩ = some (.int .i64 t210) := (blk_cell BK216.out 0).trans rfl; have hcz51_1 : w49.cell? ⟨gb216, 1, none⟩ = some (.slice Ao48 t211.length co48) := (blk_cell BK216.out 1).trans rfl; have hfz51_0 := blk_frozen BK216.out 0; have hfz51_1 := blk_frozen BK216.out 1) | (go_at_call 27; (with_reducible refine (words_Get.calls t210 _ _ t211 1 true _ ?side1 ?side2 A14.out).mono ?_); (case side1 => repeat (first | exact (Kd.R_reads' HO213.out).2.2 | (with_reducible refine Kd.C_alloc ?_ _) | (with_reducible refine Kd.C_drewN ?_ _) | (with_reducible refine Kd.C_drew ?_))); (case side2 => exact (Kd.R_reads' HO213.out).2.1); rintro e w52 ⟨rfl, hb⟩; have n0_ := Aside0.mk (Kd.R_below (by (with_reducible repeat (first | apply Kd.R_alloc | apply Kd.R_drewN | apply Kd.R_drew)); exact HO203.out) hb); have n1_ := Aside0.mk (Kd.R_below (by (with_reducible repeat (first | apply Kd.R_alloc | apply Kd.R_drewN | apply Kd.R_drew)); exact HO207.out) hb); have n2_ := Aside0.mk (Kd.R_below (by (with_reducible repeat (first | apply Kd.R_alloc | apply Kd.R_drewN | apply Kd.R_drew)); exact HO213.out) hb); have n3_ := Aside0.mk (blk_below (g := gb209) (o := .cells #[.int .i64 t204, .slice (some ad221) t205.length co43] 31 (0, 0)) (by (with_reducible repeat (first | refine blk_drewN ?_ _ | refine blk_drew ?_ | refine blk_alloc ?_ _)); exact BK209.out) hb); have n4_ := Aside0.mk (blk_below (g := gb216) (o := .cells #[.int .i64 t210, .slice Ao48 t211.length co48] 31 (0, 0)) (by (with_reducible repeat (first | refine blk_drewN ?_ _ | refine blk_drew ?_ | refine blk_alloc ?_ _)); exact BK216.out) hb); have n5_ := Aside0.mk (below_step (by repeat (first | (with_reducible first | exact HB.out | apply below_alloc | apply pw_below_drewN | apply below_drew1 | refine below_set ?_ GE209.out | refine below_set ?_ GE216.out) | exact HB.out)) hb); clear HO203; clear HO207; clear HO213; clear BK209; clear BK216; clear HB; have HO203 := n0_; have HO207 := n1_; have HO213 := n2_; have BK209 := n3_; have BK216 := n4_; have HB := n5_; clear n0_ n1_ n2_ n3_ n4_ n5_; (try clear hb); (try clear hb2); (try clear hk); (try clear hi); have hcz53_0 : w52.cell? ⟨gb216, 0, none⟩ = some (.int .i64 t210) := (blk_cell BK216.out 0).trans rfl; have hcz53_1 : w52.cell? ⟨gb216, 1, none⟩ = some (.slice Ao48 t211.length co48) := (blk_cell BK216.out 1).trans rfl; have hfz53_0 := blk_frozen BK216.out 0; have hfz53_1 := blk_frozen BK216.out 1) | (go_at_call 27; (with_reducible refine (words_Get.calls t210 _ _ t211 2 false _ ?side1 ?side2 A16.out).mono ?_); (case side1 => repeat (first | exact (Kd.R_reads' HO213.out).2.2 | (with_reducible refine Kd.C_alloc ?_ _) | (with_reducible refine Kd.C_drewN ?_ _) | (with_reducible refine Kd.C_drew ?_))); (case side2 => exact (Kd.R_reads' HO213.out).2.1); rintro e w54 ⟨rfl, hb⟩; have n0_ := Aside0.mk (Kd.R_below (by (with_reducible repeat (first | apply Kd.R_alloc | apply Kd.R_drewN | apply Kd.R_drew)); exact HO203.out) hb); have n1_ := Aside0.mk (Kd.R_below (by (with_reducible repeat (first | apply Kd.R_alloc | apply Kd.R_drewN | apply Kd.R_drew)); exact HO207.out) hb); have n2_ := Aside0.mk (Kd.R_below (by (with_reducible repeat (first | apply Kd.R_alloc | apply Kd.R_drewN | apply Kd.R_drew)); exact HO213.out) hb); have n3_ := Aside0.mk (blk_below (g := gb209) (o := .cells #[.int .i64 t204, .slice (some ad221) t205.length co43] 31 (0, 0)) (by (with_reducible repeat (first | refine blk_drewN ?_ _ | refine blk_drew ?_ | refine blk_alloc ?_ _)); exact BK209.out) hb); have n4_ := Aside0.mk (blk_below (g := gb216) (o := .cells #[.int .i64 t210, .slice Ao48 t211.length co48] 31 (0, 0)) (by (with_reducible repeat (first | refine blk_drewN ?_ _ | refine blk_drew ?_ | refine blk_alloc ?_ _)); exact BK216.out) hb); have n5_ := Aside0.mk (below_step (by repeat (first | (with_reducible first | exact HB.out | apply below_alloc | apply pw_below_drewN | apply below_drew1 | refine below_set ?_ GE209.out | refine below_set ?_ GE216.out) | exact HB.out)) hb); clear HO203; clear HO207; clear HO213; clear BK209; clear BK216; clear HB; have HO203 := n0_; have HO207 := n1_; have HO213 := n2_; have BK209 := n3_; have BK216 := n4_; have HB := n5_; clear n0_ n1_ n2_ n3_ n4_ n5_; (try clear hb); (try clear hb2); (try clear hk); (try clear hi)))
                          go_ret
                          exact ⟨by first | rfl | (simp [errW_none, errW_some] <;> rfl) | (simp [*, errW_none, errW_some] <;> rfl), by repeat (first | (with_reducible first | exact HB.out | apply below_alloc | apply pw_below_drewN | apply below_drew1 | refine below_set ?_ GE209.out | refine below_set ?_ GE216.out) | exact HB.out)⟩
                        · rw [if_neg c36] at H
                          exact absurd (Option.some.inj H) (by rw [hrt_]; decide)
                    · replace c15 := Bool.eq_false_iff.mpr c15
                      subst c15
                      have H1 : (some false) = some r := by rw [if_neg (show ¬ (false = true) by decide)] at H; exact H
                      exact absurd (Option.some.inj H1) (by rw [hrt_]; decide)
                  · rw [if_neg c13] at H
                    exact absurd (Option.some.inj H) (by rw [hrt_]; decide)
                · replace c12 := Bool.eq_false_iff.mpr c12
                  subst c12
                  have H1 : (some false) = some r := by rw [if_neg (show ¬ (false = true) by decide)] at H; exact H
                  exact absurd (Option.some.inj H1) (by rw [hrt_]; decide)
              · rw [if_neg c11] at H
                exact absurd (Option.some.inj H) (by rw [hrt_]; decide)
            · rw [if_neg c10] at H
              exact absurd H (by simp)
          · rw [if_neg c9] at H
            exact absurd (Option.some.inj H) (by rw [hrt_]; decide)
        · rw [if_neg c8] at H
          exact absurd (Option.some.inj H) (by rw [hrt_]; decide)
      · rw [if_neg c7] at H
        exact absurd (Option.some.inj H) (by rw [hrt_]; decide)
    · rw [if_neg c6] at H
      exact absurd (Option.some.inj H) (by rw [hrt_]; decide)
  · rw [if_neg c5] at H
    exact absurd (Option.some.inj H) (by rw [hrt_]; decide)
end Go.Proofs.Ytlghmadoogblcaa.PW
end
section
namespace Go.Proofs.Ytlghmadoogblcaa.Alive
open Go.RowKit Go.Proofs.Ytlghmadoogblcaa.PW Go.Proofs.YtlghmadoogblcaaW.PrintWords Go.Proofs.YtlghmadoogblcaaW.PrintLast Go.Proofs.YtlghmadoogblcaaW.PrintMore
set_option maxRecDepth 100000
theorem alive_true : vivariumlaw02_alive.f 100 = some true := by decide +kernel
end Go.Proofs.Ytlghmadoogblcaa.Alive
end
section
namespace Go.Proofs.Ytlghmadoogblcaa.IsLaw
open Go Go.RowKit Go.Proofs.YtlghmadoogblcaaW.PrintWords Go.Proofs.YtlghmadoogblcaaW.PrintLast Go.Proofs.YtlghmadoogblcaaW.PrintMore Go.Proofs.Ytlghmadoogblcaa.PW Go.Proofs.Ytlghmadoogblcaa.Book Go.Proofs.Ytlghmadoogblcaa.Lent Go.Proofs.Ytlghmadoogblcaa.Pile
set_option linter.unusedVariables false
set_option linter.unusedSimpArgs false
set_option maxHeartbeats 8000000 in
set_option maxRecDepth 100000 in
theorem core (k : Nat) (n0 n1 n2 n3 n m1 m2 e1 e2 : Int) (A0 A1 A2 A3 : Option Addr) (c0 c1 c2 c3 : Nat) (X0 Z0 X1 Z1 X2 Z2 X3 Z3 Y1 Y2 : List Int) (w : World)
    (hC0 : Kd.C (Kd.int .u64) w A0 X0.length X0) (hl0 : X0.length ≤ c0) (hm0 : X0.length ≤ 17592186043904) (hz0 : X0.map (fun v => Go.bits .xor .u64 v 6148914691236517205) = Z0) (hC1 : Kd.C (Kd.int .u64) w A1 X1.length X1) (hl1 : X1.length ≤ c1) (hm1 : X1.length ≤ 17592186043904) (hz1 : X1.map (fun v => Go.bits .xor .u64 v 6148914691236517205) = Z1) (hC2 : Kd.C (Kd.int .u64) w A2 X2.length X2) (hl2 : X2.length ≤ c2) (hm2 : X2.length ≤ 17592186043904) (hz2 : X2.map (fun v => Go.bits .xor .u64 v 6148914691236517205) = Z2) (hC3 : Kd.C (Kd.int .u64) w A3 X3.length X3) (hl3 : X3.length ≤ c3) (hm3 : X3.length ≤ 17592186043904) (hz3 : X3.map (fun v => Go.bits .xor .u64 v 6148914691236517205) = Z3) (hk : 17592186043906 < k)
    (hal : vivariumlaw02_alive.f k = some true) (y1 : Y1.length ≤ 2000000) (y2 : Y2.length ≤ 2000000)
    (t1 : IsPlain.Told 36 n0 n1 n2 n3 X0 X1 X2 X3 n m1 Y1 e1) (t2 : IsPlain.Told 35 n0 n1 n2 n3 X0 X1 X2 X3 n m1 Y1 e1)
    (t3 : IsPlain.Told 36 n0 n1 n2 n3 Z0 Z1 Z2 Z3 n m2 Y2 e2) (t4 : IsPlain.Told 35 n0 n1 n2 n3 Z0 Z1 Z2 Z3 n m2 Y2 e2) :
    Calls Try.prog 9 #[.agg #[.int .i64 n0, .slice A0 X0.length c0, .int .i64 n1, .slice A1 X1.length c1, .int .i64 n2, .slice A2 X2.length c2, .int .i64 n3, .slice A3 X3.length c3, .int .i64 n]] w fun e w' => e = .returned (.bool true) ∧ Below w.heap.size w w' := by
  have HC0 := Aside0.mk hC0; have HL0 := Aside0.mk hl0; have HM0 := Aside0.mk hm0; have HZ0 := Aside0.mk hz0; have HLZ0 := Aside0.mk (show Z0.length = X0.length by rw [← hz0, List.length_map]); have HC1 := Aside0.mk hC1; have HL1 := Aside0.mk hl1; have HM1 := Aside0.mk hm1; have HZ1 := Aside0.mk hz1; have HLZ1 := Aside0.mk (show Z1.length = X1.length by rw [← hz1, List.length_map]); have HC2 := Aside0.mk hC2; have HL2 := Aside0.mk hl2; have HM2 := Aside0.mk hm2; have HZ2 := Aside0.mk hz2; have HLZ2 := Aside0.mk (show Z2.length = X2.length by rw [← hz2, List.length_map]); have HC3 := Aside0.mk hC3; have HL3 := Aside0.mk hl3; have HM3 := Aside0.mk hm3; have HZ3 := Aside0.mk hz3; have HLZ3 := Aside0.mk (show Z3.length = X3.length by rw [← hz3, List.length_map])
  have HK := Aside0.mk hk; have HA := Aside0.mk hal; have HY1 := Aside0.mk y1; have HY2 := Aside0.mk y2; have T1 := Aside0.mk t1; have T2 := Aside0.mk t2; have T3 := Aside0.mk t3; have T4 := Aside0.mk t4
  have E0 := At.mk (n := 0)
  have hu := Try.underlying31
  have hu4 := Try.underlying54
  have hu6 := Try.underlying62
  clear hC0 hl0 hm0 hz0 hC1 hl1 hm1 hz1 hC2 hl2 hm2 hz2 hC3 hl3 hm3 hz3 hk hal y1 y2 t1 t2 t3 t4
  go_enter Try.func9, Try.ntmps9
  go_wp2_with (first
    | ((with_reducible refine gate_dst (N := 1) rfl ?_); refine box_event ?hg1 (N := 1) ?hd1 (cs := #[.int .i64 n0, .slice A0 X0.length c0, .int .i64 n1, .slice A1 X1.length c1, .int .i64 n2, .slice A2 X2.length c2, .int .i64 n3, .slice A3 X3.length c3, .int .i64 n]) (t := 62) ?hr1 ?_; (case hd1 => rfl); (case hg1 => rfl); (case hr1 => first | (go_simp; done) | (go_simp; rfl)); intro t1 g1 W1 x1 hb1; subst g1; have P2 := (Pile0.start w).on hb1; have XA := Aside0.mk (BoxF.mk (cs := [.int .i64 n0, .slice A0 X0.length c0, .int .i64 n1, .slice A1 X1.length c1, .int .i64 n2, .slice A2 X2.length c2, .int .i64 n3, .slice A3 X3.length c3, .int .i64 n]) x1 (by decide) (by decide) (by decide) (by decide)); clear x1 hb1; have P := Aside0.mk P2; clear P2)
    | (go_at_call 13; have E_ := E0; have P1 := P.out; have h_ := vivariumlaw02_alive.calls k true W1 rfl HA.out; (with_reducible refine h_.mono ?_); clear h_; rintro er_ v1 ⟨rfl, hb⟩; have P2 := P1.on hb; have XA2 := XA.out.on hb; clear XA hb P P1 E0 E_; have XA := Aside0.mk XA2; clear XA2; have P := Aside0.mk P2; clear P2; have E1 := At.mk (n := 1); have xA0 := XA.out.at_ 0 (.int .i64 n0) rfl; have xA1 := XA.out.at_ 1 (.slice A0 X0.length c0) rfl; have xA2 := XA.out.at_ 2 (.int .i64 n1) rfl; have xA3 := XA.out.at_ 3 (.slice A1 X1.length c1) rfl; have xA4 := XA.out.at_ 4 (.int .i64 n2) rfl; have xA5 := XA.out.at_ 5 (.slice A2 X2.length c2) rfl; have xA6 := XA.out.at_ 6 (.int .i64 n3) rfl; have xA7 := XA.out.at_ 7 (.slice A3 X3.length c3) rfl))
  refine wp_loop_rounds 5 ?_
  have XG := Aside0.mk ((BoxF.mk (cs := [.int .i64 n0, .slice A0 X0.length c0, .int .i64 n1, .slice A1 X1.length c1, .int .i64 n2, .slice A2 X2.length c2, .int .i64 n3, .slice A3 X3.length c3]) (blk_new v1 _) (by decide) (by decide) (by decide) (by decide) : BoxF (v1.alloc (.cells #[.int .i64 n0, .slice A0 X0.length c0, .int .i64 n1, .slice A1 X1.length c1, .int .i64 n2, .slice A2 X2.length c2, .int .i64 n3, .slice A3 X3.length c3] 54)) v1.heap.size [.int .i64 n0, .slice A0 X0.length c0, .int .i64 n1, .slice A1 X1.length c1, .int .i64 n2, .slice A2 X2.length c2, .int .i64 n3, .slice A3 X3.length c3] 54).on (below_alloc (Below.refl _ _) (.cells #[.int .i64 0, .slice none 0 0, .int .i64 0, .slice none 0 0, .int .i64 0, .slice none 0 0, .int .i64 0, .slice none 0 0] 54)))
  have XL := Aside0.mk (BoxF.mk (cs := [.int .i64 0, .slice none 0 0, .int .i64 0, .slice none 0 0, .int .i64 0, .slice none 0 0, .int .i64 0, .slice none 0 0]) (by have h_ := blk_new (v1.alloc (.cells #[.int .i64 n0, .slice A0 X0.length c0, .int .i64 n1, .slice A1 X1.length c1, .int .i64 n2, .slice A2 X2.length c2, .int .i64 n3, .slice A3 X3.length c3] 54)) (.cells #[.int .i64 0, .slice none 0 0, .int .i64 0, .slice none 0 0, .int .i64 0, .slice none 0 0, .int .i64 0, .slice none 0 0] 54 (0, 0)); simpa using h_) (by decide) (by decide) (by decide) (by decide) : BoxF ((v1.alloc (.cells #[.int .i64 n0, .slice A0 X0.length c0, .int .i64 n1, .slice A1 X1.length c1, .int .i64 n2, .slice A2 X2.length c2, .int .i64 n3, .slice A3 X3.length c3] 54)).alloc (.cells #[.int .i64 0, .slice none 0 0, .int .i64 0, .slice none 0 0, .int .i64 0, .slice none 0 0, .int .i64 0, .slice none 0 0] 54)) (v1.heap.size + 1) [.int .i64 0, .slice none 0 0, .int .i64 0, .slice none 0 0, .int .i64 0, .slice none 0 0, .int .i64 0, .slice none 0 0] 54)
  have P2 := (P.out.on (below_alloc (Below.refl _ _) (.cells #[.int .i64 n0, .slice A0 X0.length c0, .int .i64 n1, .slice A1 X1.length c1, .int .i64 n2, .slice A2 X2.length c2, .int .i64 n3, .slice A3 X3.length c3] 54))).on (below_alloc (Below.refl _ _) (.cells #[.int .i64 0, .slice none 0 0, .int .i64 0, .slice none 0 0, .int .i64 0, .slice none 0 0, .int .i64 0, .slice none 0 0] 54))
  have XA2 := (XA.out.on (below_alloc (Below.refl _ _) (.cells #[.int .i64 n0, .slice A0 X0.length c0, .int .i64 n1, .slice A1 X1.length c1, .int .i64 n2, .slice A2 X2.length c2, .int .i64 n3, .slice A3 X3.length c3] 54))).on (below_alloc (Below.refl _ _) (.cells #[.int .i64 0, .slice none 0 0, .int .i64 0, .slice none 0 0, .int .i64 0, .slice none 0 0, .int .i64 0, .slice none 0 0] 54))
  have hv1 := P.out.be.size
  have hAG : w.heap.size < v1.heap.size := blk_lt XA.out.bx
  clear P XA xA0 xA1 xA2 xA3 xA4 xA5 xA6 xA7
  have P := Aside0.mk P2
  have XA := Aside0.mk XA2
  clear P2 XA2
  generalize (v1.alloc (.cells #[.int .i64 n0, .slice A0 X0.length c0, .int .i64 n1, .slice A1 X1.length c1, .int .i64 n2, .slice A2 X2.length c2, .int .i64 n3, .slice A3 X3.length c3] 54)).alloc (.cells #[.int .i64 0, .slice none 0 0, .int .i64 0, .slice none 0 0, .int .i64 0, .slice none 0 0, .int .i64 0, .slice none 0 0] 54) = wA at P XA XG XL ⊢
  have HAG := Aside0.mk hAG
  clear hAG hv1
  rw [rounds_succ]
  have xG0 := XG.out.at_ 0 (.int .i64 n0) rfl
  have xG1 := XG.out.at_ 1 (.slice A0 X0.length c0) rfl
  have qXG := blk_lt XG.out.bx
  go_wp2_with (go_at_call 24; have E_ := E1; have P1 := P.out; have h_ := Lent.lent n0 A0 c0 X0 wA (Kd.C_below HC0.out P1.be) HL0.out HM0.out; (with_reducible refine h_.mono ?_); clear h_; rintro er_ u0 ⟨g0, d0, rfl, hl, hb⟩; clear xG0 xG1 qXG; have P2 := P1.lend hb hl; have XA2 := BoxF.on XA.out hb; clear XA; have XA := Aside0.mk XA2; clear XA2; have XG2 := BoxF.on XG.out hb; clear XG; have XG := Aside0.mk XG2; clear XG2; have XL2 := BoxF.on XL.out hb; clear XL; have XL := Aside0.mk XL2; clear XL2; clear P P1 E1 E_; have P := Aside0.mk P2; clear P2; have E2 := At.mk (n := 2); have xL0 := XL.out.at_ 0 (.int .i64 0) rfl; have fL0 := XL.out.free 0; have xL1 := XL.out.at_ 1 (.slice none 0 0) rfl; have fL1 := XL.out.free 1; have qXL := blk_lt XL.out.bx)
  have P2 := (P.out.other (i := 0) (u := .int .i64 n0) XL.out (by have := HAG.out; omega)).other (i := 1) (u := .slice (some ⟨g0, 0, none⟩) X0.length d0) (XL.out.put 0 (.int .i64 n0)) (by have := HAG.out; omega)
  have XL2 := (XL.out.put 0 (.int .i64 n0)).put 1 (.slice (some ⟨g0, 0, none⟩) X0.length d0)
  have XG2 := (XG.out.far (g' := v1.heap.size + 1) (by omega) 0 (.int .i64 n0)).far (g' := v1.heap.size + 1) (by omega) 1 (.slice (some ⟨g0, 0, none⟩) X0.length d0)
  have XA2 := (XA.out.far (g' := v1.heap.size + 1) (by have := HAG.out; omega) 0 (.int .i64 n0)).far (g' := v1.heap.size + 1) (by have := HAG.out; omega) 1 (.slice (some ⟨g0, 0, none⟩) X0.length d0)
  clear xL0 fL0 xL1 fL1 qXL
  clear P XA XG XL
  have P := Aside0.mk P2
  have XA := Aside0.mk XA2
  have XG := Aside0.mk XG2
  have XL := Aside0.mk (show BoxF _ _ [.int .i64 n0, .slice (some ⟨g0, 0, none⟩) X0.length d0, .int .i64 0, .slice none 0 0, .int .i64 0, .slice none 0 0, .int .i64 0, .slice none 0 0] _ from XL2)
  clear P2 XA2 XG2 XL2
  generalize (World.setCell u0 _ _).setCell _ _ = s0 at P XA XG XL ⊢
  rw [rounds_succ]
  have xG2 := XG.out.at_ 2 (.int .i64 n1) rfl
  have xG3 := XG.out.at_ 3 (.slice A1 X1.length c1) rfl
  have qXG := blk_lt XG.out.bx
  go_wp2_with (go_at_call 24; have E_ := E2; have P1 := P.out; have h_ := Lent.lent n1 A1 c1 X1 s0 (Kd.C_below HC1.out P1.be) HL1.out HM1.out; (with_reducible refine h_.mono ?_); clear h_; rintro er_ u1 ⟨g1, d1, rfl, hl, hb⟩; clear xG2 xG3 qXG; have P2 := P1.lend hb hl; have XA2 := BoxF.on XA.out hb; clear XA; have XA := Aside0.mk XA2; clear XA2; have XG2 := BoxF.on XG.out hb; clear XG; have XG := Aside0.mk XG2; clear XG2; have XL2 := BoxF.on XL.out hb; clear XL; have XL := Aside0.mk XL2; clear XL2; clear P P1 E2 E_; have P := Aside0.mk P2; clear P2; have E3 := At.mk (n := 3); have xL2 := XL.out.at_ 2 (.int .i64 0) rfl; have fL2 := XL.out.free 2; have xL3 := XL.out.at_ 3 (.slice none 0 0) rfl; have fL3 := XL.out.free 3; have qXL := blk_lt XL.out.bx)
  have P2 := (P.out.other (i := 2) (u := .int .i64 n1) XL.out (by have := HAG.out; omega)).other (i := 3) (u := .slice (some ⟨g1, 0, none⟩) X1.length d1) (XL.out.put 2 (.int .i64 n1)) (by have := HAG.out; omega)
  have XL2 := (XL.out.put 2 (.int .i64 n1)).put 3 (.slice (some ⟨g1, 0, none⟩) X1.length d1)
  have XG2 := (XG.out.far (g' := v1.heap.size + 1) (by omega) 2 (.int .i64 n1)).far (g' := v1.heap.size + 1) (by omega) 3 (.slice (some ⟨g1, 0, none⟩) X1.length d1)
  have XA2 := (XA.out.far (g' := v1.heap.size + 1) (by have := HAG.out; omega) 2 (.int .i64 n1)).far (g' := v1.heap.size + 1) (by have := HAG.out; omega) 3 (.slice (some ⟨g1, 0, none⟩) X1.length d1)
  clear xL2 fL2 xL3 fL3 qXL
  clear P XA XG XL
  have P := Aside0.mk P2
  have XA := Aside0.mk XA2
  have XG := Aside0.mk XG2
  have XL := Aside0.mk (show BoxF _ _ [.int .i64 n0, .slice (some ⟨g0, 0, none⟩) X0.length d0, .int .i64 n1, .slice (some ⟨g1, 0, none⟩) X1.length d1, .int .i64 0, .slice none 0 0, .int .i64 0, .slice none 0 0] _ from XL2)
  clear P2 XA2 XG2 XL2
  generalize (World.setCell u1 _ _).setCell _ _ = s1 at P XA XG XL ⊢
  rw [rounds_succ]
  have xG4 := XG.out.at_ 4 (.int .i64 n2) rfl
  have xG5 := XG.out.at_ 5 (.slice A2 X2.length c2) rfl
  have qXG := blk_lt XG.out.bx
  go_wp2_with (go_at_call 24; have E_ := E3; have P1 := P.out; have h_ := Lent.lent n2 A2 c2 X2 s1 (Kd.C_below HC2.out P1.be) HL2.out HM2.out; (with_reducible refine h_.mono ?_); clear h_; rintro er_ u2 ⟨g2, d2, rfl, hl, hb⟩; clear xG4 xG5 qXG; have P2 := P1.lend hb hl; have XA2 := BoxF.on XA.out hb; clear XA; have XA := Aside0.mk XA2; clear XA2; have XG2 := BoxF.on XG.out hb; clear XG; have XG := Aside0.mk XG2; clear XG2; have XL2 := BoxF.on XL.out hb; clear XL; have XL := Aside0.mk XL2; clear XL2; clear P P1 E3 E_; have P := Aside0.mk P2; clear P2; have E4 := At.mk (n := 4); have xL4 := XL.out.at_ 4 (.int .i64 0) rfl; have fL4 := XL.out.free 4; have xL5 := XL.out.at_ 5 (.slice none 0 0) rfl; have fL5 := XL.out.free 5; have qXL := blk_lt XL.out.bx)
  have P2 := (P.out.other (i := 4) (u := .int .i64 n2) XL.out (by have := HAG.out; omega)).other (i := 5) (u := .slice (some ⟨g2, 0, none⟩) X2.length d2) (XL.out.put 4 (.int .i64 n2)) (by have := HAG.out; omega)
  have XL2 := (XL.out.put 4 (.int .i64 n2)).put 5 (.slice (some ⟨g2, 0, none⟩) X2.length d2)
  have XG2 := (XG.out.far (g' := v1.heap.size + 1) (by omega) 4 (.int .i64 n2)).far (g' := v1.heap.size + 1) (by omega) 5 (.slice (some ⟨g2, 0, none⟩) X2.length d2)
  have XA2 := (XA.out.far (g' := v1.heap.size + 1) (by have := HAG.out; omega) 4 (.int .i64 n2)).far (g' := v1.heap.size + 1) (by have := HAG.out; omega) 5 (.slice (some ⟨g2, 0, none⟩) X2.length d2)
  clear xL4 fL4 xL5 fL5 qXL
  clear P XA XG XL
  have P := Aside0.mk P2
  have XA := Aside0.mk XA2
  have XG := Aside0.mk XG2
  have XL := Aside0.mk (show BoxF _ _ [.int .i64 n0, .slice (some ⟨g0, 0, none⟩) X0.length d0, .int .i64 n1, .slice (some ⟨g1, 0, none⟩) X1.length d1, .int .i64 n2, .slice (some ⟨g2, 0, none⟩) X2.length d2, .int .i64 0, .slice none 0 0] _ from XL2)
  clear P2 XA2 XG2 XL2
  generalize (World.setCell u2 _ _).setCell _ _ = s2 at P XA XG XL ⊢
  rw [rounds_succ]
  have xG6 := XG.out.at_ 6 (.int .i64 n3) rfl
  have xG7 := XG.out.at_ 7 (.slice A3 X3.length c3) rfl
  have qXG := blk_lt XG.out.bx
  go_wp2_with (go_at_call 24; have E_ := E4; have P1 := P.out; have h_ := Lent.lent n3 A3 c3 X3 s2 (Kd.C_below HC3.out P1.be) HL3.out HM3.out; (with_reducible refine h_.mono ?_); clear h_; rintro er_ u3 ⟨g3, d3, rfl, hl, hb⟩; clear xG6 xG7 qXG; have P2 := P1.lend hb hl; have XA2 := BoxF.on XA.out hb; clear XA; have XA := Aside0.mk XA2; clear XA2; have XG2 := BoxF.on XG.out hb; clear XG; have XG := Aside0.mk XG2; clear XG2; have XL2 := BoxF.on XL.out hb; clear XL; have XL := Aside0.mk XL2; clear XL2; clear P P1 E4 E_; have P := Aside0.mk P2; clear P2; have E5 := At.mk (n := 5); have xL6 := XL.out.at_ 6 (.int .i64 0) rfl; have fL6 := XL.out.free 6; have xL7 := XL.out.at_ 7 (.slice none 0 0) rfl; have fL7 := XL.out.free 7; have qXL := blk_lt XL.out.bx)
  have P2 := (P.out.other (i := 6) (u := .int .i64 n3) XL.out (by have := HAG.out; omega)).other (i := 7) (u := .slice (some ⟨g3, 0, none⟩) X3.length d3) (XL.out.put 6 (.int .i64 n3)) (by have := HAG.out; omega)
  have XL2 := (XL.out.put 6 (.int .i64 n3)).put 7 (.slice (some ⟨g3, 0, none⟩) X3.length d3)
  have XG2 := (XG.out.far (g' := v1.heap.size + 1) (by omega) 6 (.int .i64 n3)).far (g' := v1.heap.size + 1) (by omega) 7 (.slice (some ⟨g3, 0, none⟩) X3.length d3)
  have XA2 := (XA.out.far (g' := v1.heap.size + 1) (by have := HAG.out; omega) 6 (.int .i64 n3)).far (g' := v1.heap.size + 1) (by have := HAG.out; omega) 7 (.slice (some ⟨g3, 0, none⟩) X3.length d3)
  clear xL6 fL6 xL7 fL7 qXL
  clear P XA XG XL
  have P := Aside0.mk P2
  have XA := Aside0.mk XA2
  have XG := Aside0.mk XG2
  have XL := Aside0.mk (show BoxF _ _ [.int .i64 n0, .slice (some ⟨g0, 0, none⟩) X0.length d0, .int .i64 n1, .slice (some ⟨g1, 0, none⟩) X1.length d1, .int .i64 n2, .slice (some ⟨g2, 0, none⟩) X2.length d2, .int .i64 n3, .slice (some ⟨g3, 0, none⟩) X3.length d3] _ from XL2)
  clear P2 XA2 XG2 XL2
  generalize (World.setCell u3 _ _).setCell _ _ = s3 at P XA XG XL ⊢
  rw [rounds_succ]
  have xG0 := XG.out.at_ 0 (.int .i64 n0) rfl
  have xG1 := XG.out.at_ 1 (.slice A0 X0.length c0) rfl
  have xG2 := XG.out.at_ 2 (.int .i64 n1) rfl
  have xG3 := XG.out.at_ 3 (.slice A1 X1.length c1) rfl
  have xG4 := XG.out.at_ 4 (.int .i64 n2) rfl
  have xG5 := XG.out.at_ 5 (.slice A2 X2.length c2) rfl
  have xG6 := XG.out.at_ 6 (.int .i64 n3) rfl
  have xG7 := XG.out.at_ 7 (.slice A3 X3.length c3) rfl
  have xA8 := XA.out.at_ 8 (.int .i64 n) rfl
  have qXA := blk_lt XA.out.bx
  have qXG := blk_lt XG.out.bx
  go_wp2_with (first
    | (go_at_call 35; have E_ := E5; have P1 := (Pile.make P.out (s3.heap.size) rfl); have h_ := T2.out A0 A1 A2 A3 c0 c1 c2 c3 _ (Kd.C_below HC0.out P1.p0.be) HL0.out (Kd.C_below HC1.out P1.p0.be) HL1.out (Kd.C_below HC2.out P1.p0.be) HL2.out (Kd.C_below HC3.out P1.p0.be) HL3.out; (with_reducible refine h_.mono ?_); clear h_; rintro er_ v6 ⟨t_, rfl, ho, hb⟩; clear xG0 xG1 xG2 xG3 xG4 xG5 xG6 xG7 xA8 qXA qXG; have hR : Kd.R (Kd.int .u64) 22 _ _ (fun _ => True) t_ Y1 := Kd.R_of_own (enc := Value.int .u64) (h1 := fun _ => rfl) ho (fun _ _ => trivial); have P2 := P1.told hb hR; obtain ⟨A_0, c_0, rfl, -, -⟩ := Kd.R_reads hR; clear hR ho; have XA2 := BoxF.on (BoxF.on XA.out (below_alloc (Below.refl _ _) _)) hb; clear XA; have XA := Aside0.mk XA2; clear XA2; have XG2 := BoxF.on (BoxF.on XG.out (below_alloc (Below.refl _ _) _)) hb; clear XG; have XG := Aside0.mk XG2; clear XG2; have XL2 := BoxF.on (BoxF.on XL.out (below_alloc (Below.refl _ _) _)) hb; clear XL; have XL := Aside0.mk XL2; clear XL2; clear P P1 E5 E_; have P := Aside0.mk P2; clear P2; have E6 := At.mk (n := 6); have xL0 := XL.out.at_ 0 (.int .i64 n0) rfl; have xL1 := XL.out.at_ 1 (.slice (some ⟨g0, 0, none⟩) X0.length d0) rfl; have xL2 := XL.out.at_ 2 (.int .i64 n1) rfl; have xL3 := XL.out.at_ 3 (.slice (some ⟨g1, 0, none⟩) X1.length d1) rfl; have xL4 := XL.out.at_ 4 (.int .i64 n2) rfl; have xL5 := XL.out.at_ 5 (.slice (some ⟨g2, 0, none⟩) X2.length d2) rfl; have xL6 := XL.out.at_ 6 (.int .i64 n3) rfl; have xL7 := XL.out.at_ 7 (.slice (some ⟨g3, 0, none⟩) X3.length d3) rfl; have xA8 := XA.out.at_ 8 (.int .i64 n) rfl; have qXA := blk_lt XA.out.bx; have qXL := blk_lt XL.out.bx)
    | (go_at_call 36; have E_ := E6; have P1 := (P.out.push [.int .i64 m1, .slice A_0 Y1.length c_0] (v6.heap.size) rfl); have h_ := T1.out (some ⟨g0, 0, none⟩) (some ⟨g1, 0, none⟩) (some ⟨g2, 0, none⟩) (some ⟨g3, 0, none⟩) d0 d1 d2 d3 _ (P1.p0.C (j := 0) rfl) (P1.p0.cap (j := 0) rfl) (P1.p0.C (j := 1) rfl) (P1.p0.cap (j := 1) rfl) (P1.p0.C (j := 2) rfl) (P1.p0.cap (j := 2) rfl) (P1.p0.C (j := 3) rfl) (P1.p0.cap (j := 3) rfl); (with_reducible refine h_.mono ?_); clear h_; rintro er_ v7 ⟨t_, rfl, ho, hb⟩; clear xL0 xL1 xL2 xL3 xL4 xL5 xL6 xL7 xA8 qXA qXL; have hR : Kd.R (Kd.int .u64) 22 _ _ (fun _ => True) t_ Y1 := Kd.R_of_own (enc := Value.int .u64) (h1 := fun _ => rfl) ho (fun _ _ => trivial); have P2 := P1.told hb hR; obtain ⟨A_1, c_1, rfl, -, -⟩ := Kd.R_reads hR; clear hR ho; have XA2 := BoxF.on (BoxF.on XA.out (below_alloc (Below.refl _ _) _)) hb; clear XA; have XA := Aside0.mk XA2; clear XA2; have XG2 := BoxF.on (BoxF.on XG.out (below_alloc (Below.refl _ _) _)) hb; clear XG; have XG := Aside0.mk XG2; clear XG2; have XL2 := BoxF.on (BoxF.on XL.out (below_alloc (Below.refl _ _) _)) hb; clear XL; have XL := Aside0.mk XL2; clear XL2; clear P P1 E6 E_; have P := Aside0.mk P2; clear P2; have E7 := At.mk (n := 7); have z_ := P.out.p0.at_ (i := 0) rfl; have q_want := z_.1; have y_want0 := z_.2 0 _ rfl; have y_want1 := z_.2 1 _ rfl; clear z_)
    | (go_at_call 20; have E_ := E7; have P1 := (P.out.push [.int .i64 m1, .slice A_1 Y1.length c_1] (v7.heap.size) rfl); have h_ := P1.addsF k 1 0 m1 e1 A_1 A_0 c_1 c_0 Y1 rfl rfl rfl (by simp) HY1.out (by have := HY1.out; have := HK.out; omega); (with_reducible refine h_.mono ?_); clear h_; rintro er_ v8 ⟨rfl, gv_, wv_, P2, hF⟩; clear q_want y_want0 y_want1; skip; have XA2 := hF _ _ _ (BoxF.on XA.out (below_alloc (Below.refl _ _) _)); clear XA; have XA := Aside0.mk XA2; clear XA2; have XG2 := hF _ _ _ (BoxF.on XG.out (below_alloc (Below.refl _ _) _)); clear XG; have XG := Aside0.mk XG2; clear XG2; have XL2 := hF _ _ _ (BoxF.on XL.out (below_alloc (Below.refl _ _) _)); clear XL; have XL := Aside0.mk XL2; clear XL2; clear P P1 E7 E_; have P := Aside0.mk P2; clear P2; have E8 := At.mk (n := 8); have xL0 := XL.out.at_ 0 (.int .i64 n0) rfl; have xL1 := XL.out.at_ 1 (.slice (some ⟨g0, 0, none⟩) X0.length d0) rfl; have xL2 := XL.out.at_ 2 (.int .i64 n1) rfl; have xL3 := XL.out.at_ 3 (.slice (some ⟨g1, 0, none⟩) X1.length d1) rfl; have xL4 := XL.out.at_ 4 (.int .i64 n2) rfl; have xL5 := XL.out.at_ 5 (.slice (some ⟨g2, 0, none⟩) X2.length d2) rfl; have xL6 := XL.out.at_ 6 (.int .i64 n3) rfl; have xL7 := XL.out.at_ 7 (.slice (some ⟨g3, 0, none⟩) X3.length d3) rfl; have xA8 := XA.out.at_ 8 (.int .i64 n) rfl; have qXA := blk_lt XA.out.bx; have qXL := blk_lt XL.out.bx)
    | (go_at_call 36; have E_ := E8; have P1 := P.out; have h_ := T1.out (some ⟨g0, 0, none⟩) (some ⟨g1, 0, none⟩) (some ⟨g2, 0, none⟩) (some ⟨g3, 0, none⟩) d0 d1 d2 d3 _ (P1.p0.C (j := 0) rfl) (P1.p0.cap (j := 0) rfl) (P1.p0.C (j := 1) rfl) (P1.p0.cap (j := 1) rfl) (P1.p0.C (j := 2) rfl) (P1.p0.cap (j := 2) rfl) (P1.p0.C (j := 3) rfl) (P1.p0.cap (j := 3) rfl); (with_reducible refine h_.mono ?_); clear h_; rintro er_ v9 ⟨t_, rfl, ho, hb⟩; clear xL0 xL1 xL2 xL3 xL4 xL5 xL6 xL7 xA8 qXA qXL; have hR : Kd.R (Kd.int .u64) 22 _ _ (fun _ => True) t_ Y1 := Kd.R_of_own (enc := Value.int .u64) (h1 := fun _ => rfl) ho (fun _ _ => trivial); have P2 := P1.told hb hR; obtain ⟨A_2, c_2, rfl, -, -⟩ := Kd.R_reads hR; clear hR ho; have XA2 := BoxF.on XA.out hb; clear XA; have XA := Aside0.mk XA2; clear XA2; have XG2 := BoxF.on XG.out hb; clear XG; have XG := Aside0.mk XG2; clear XG2; have XL2 := BoxF.on XL.out hb; clear XL; have XL := Aside0.mk XL2; clear XL2; clear P P1 E8 E_; have P := Aside0.mk P2; clear P2; have E9 := At.mk (n := 9); have z_ := P.out.p0.at_ (i := 0) rfl; have q_want := z_.1; have y_want0 := z_.2 0 _ rfl; have y_want1 := z_.2 1 _ rfl; clear z_)
    | (go_at_call 20; have E_ := E9; have P1 := (P.out.push [.int .i64 m1, .slice A_2 Y1.length c_2] (v9.heap.size) rfl); have h_ := P1.addsF k 2 0 m1 e1 A_2 A_0 c_2 c_0 Y1 rfl rfl rfl (by simp) HY1.out (by have := HY1.out; have := HK.out; omega); (with_reducible refine h_.mono ?_); clear h_; rintro er_ v10 ⟨rfl, gv_, wv_, P2, hF⟩; clear q_want y_want0 y_want1; skip; have XA2 := hF _ _ _ (BoxF.on XA.out (below_alloc (Below.refl _ _) _)); clear XA; have XA := Aside0.mk XA2; clear XA2; have XG2 := hF _ _ _ (BoxF.on XG.out (below_alloc (Below.refl _ _) _)); clear XG; have XG := Aside0.mk XG2; clear XG2; have XL2 := hF _ _ _ (BoxF.on XL.out (below_alloc (Below.refl _ _) _)); clear XL; have XL := Aside0.mk XL2; clear XL2; clear P P1 E9 E_; have P := Aside0.mk P2; clear P2; have E10 := At.mk (n := 10)))
  refine wp_loop_rounds 5 ?_
  rw [rounds_succ]
  go_wp2
  refine start_ (n := 8) (S := fun w' => w'.cell? ⟨v1.heap.size + 1, 0, none⟩ = some (.int .i64 n0) ∧ w'.cell? ⟨v1.heap.size + 1, 1, none⟩ = some (.slice (some ⟨g0, 0, none⟩) X0.length d0) ∧ w'.cell? ⟨v1.heap.size, 0, none⟩ = some (.int .i64 n0) ∧ w'.cell? ⟨v1.heap.size, 1, none⟩ = some (.slice A0 X0.length c0)) (ds := []) #[false, false, false, false, false, false, false, false] (by kernel_rfl) rfl rfl ⟨XL.out.at_ 0 _ rfl, XL.out.at_ 1 _ rfl, XG.out.at_ 0 _ rfl, XG.out.at_ 1 _ rfl⟩ (fun hHeld => ?_)
  have P2 := P.out.on (below_drew (Below.refl v10.heap.size v10))
  have XA2 := XA.out.on (below_drew (Below.refl v10.heap.size v10))
  have XG2 := XG.out.on (below_drew (Below.refl v10.heap.size v10))
  have XL2 := XL.out.on (below_drew (Below.refl v10.heap.size v10))
  clear P XA XG XL
  have P := Aside0.mk P2
  have XA := Aside0.mk XA2
  have XG := Aside0.mk XG2
  have XL := Aside0.mk XL2
  clear P2 XA2 XG2 XL2
  generalize v10.drew = o0 at P XA XG XL hHeld ⊢
  refine pure_ (i := 0) (N := (some 80)) (v := ?_) (a' := ?_) #[true, false, false, false, false, false, false, false] rfl rfl (by kernel_rfl) (fun _ _ _ h => h) (Or.inl ⟨by rfl, ?_⟩) ?_ ?_
  rotate_left
  · intro w'
    go_simp
    with_reducible rfl
  rotate_left
  · simp only [Act.put, List.setIfInBounds_toArray, List.set_cons_zero, List.set_cons_succ, i64_w, i32_w]
    rfl
  refine pure_ (i := 1) (N := (some 81)) (v := ?_) (a' := ?_) #[true, true, false, false, false, false, false, false] rfl rfl (by kernel_rfl) (fun _ _ _ h => h) (Or.inl ⟨by rfl, ?_⟩) ?_ ?_
  rotate_left
  · intro w'
    go_simp
    with_reducible rfl
  rotate_left
  · simp only [Act.put, List.setIfInBounds_toArray, List.set_cons_zero, List.set_cons_succ, i64_w, i32_w]
    rfl
  refine take_ (i := 2) (N := (some 82)) (v := ?_) (a' := ?_) #[true, true, true, false, false, false, false, false] rfl rfl (by kernel_rfl) (fun _ _ _ h => h) (Or.inl ⟨by rfl, ?_⟩) hHeld ?_ ?_
  rotate_left
  · rintro w' ⟨s0, s1, s2, s3⟩
    go_simp
    with_reducible rfl
  rotate_left
  · simp only [Act.put, List.setIfInBounds_toArray, List.set_cons_zero, List.set_cons_succ, i64_w, i32_w]
    rfl
  refine pure_ (i := 3) (N := (some 83)) (v := ?_) (a' := ?_) #[true, true, true, true, false, false, false, false] rfl rfl (by kernel_rfl) (fun _ _ _ h => h) (Or.inl ⟨by rfl, ?_⟩) ?_ ?_
  rotate_left
  · intro w'
    go_simp
    with_reducible rfl
  rotate_left
  · simp only [Act.put, List.setIfInBounds_toArray, List.set_cons_zero, List.set_cons_succ, i64_w, i32_w]
    rfl
  refine pure_ (i := 4) (N := (some 84)) (v := ?_) (a' := ?_) #[true, true, true, true, true, false, false, false] rfl rfl (by kernel_rfl) (fun _ _ _ h => h) (Or.inl ⟨by rfl, ?_⟩) ?_ ?_
  rotate_left
  · intro w'
    go_simp
    with_reducible rfl
  rotate_left
  · simp only [Act.put, List.setIfInBounds_toArray, List.set_cons_zero, List.set_cons_succ, i64_w, i32_w]
    rfl
  refine take_ (i := 5) (N := (some 85)) (v := ?_) (a' := ?_) #[true, true, true, true, true, true, false, false] rfl rfl (by kernel_rfl) (fun _ _ _ h => h) (Or.inl ⟨by rfl, ?_⟩) hHeld ?_ ?_
  rotate_left
  · rintro w' ⟨s0, s1, s2, s3⟩
    go_simp
    with_reducible rfl
  rotate_left
  · simp only [Act.put, List.setIfInBounds_toArray, List.set_cons_zero, List.set_cons_succ, i64_w, i32_w]
    rfl
  refine one_ (i := 6) (N := (some 86)) #[true, true, true, true, true, true, true, false] rfl rfl (by kernel_rfl) (by decide) (fun K hK => ?_)
  have P1 := P.out
  refine goes_ Try.func30 (by kernel_rfl) rfl #[.agg #[.int .i64 n0, .slice (some ⟨g0, 0, none⟩) X0.length d0], .agg #[.int .i64 n0, .slice A0 X0.length c0]] (by rfl) rfl rfl (by (try simp only [List.map_toArray, List.map_cons, List.map_nil]); first | done | rfl) ?_
  have h_ := Lent.kept k n0 g0 d0 A0 c0 X0 w.heap.size _ (P1.p0.lent 0 _ rfl) (Kd.C_below HC0.out P1.p0.be) HL0.out HM0.out (same_self k _ _ (by have := HM0.out; omega) (by have := HM0.out; have := HK.out; omega))
  with_reducible refine h_.mono ?_
  clear h_
  rintro er_ p0 ⟨rfl, hb⟩
  refine ⟨_, rfl, ?_⟩
  have P2 := P1.on hb
  have XA2 := XA.out.on hb
  have XG2 := XG.out.on hb
  have XL2 := XL.out.on hb
  refine hK.out _ _ ⟨XL2.at_ 0 _ rfl, XL2.at_ 1 _ rfl, XG2.at_ 0 _ rfl, XG2.at_ 1 _ rfl⟩ (fun hHeld => ?_)
  clear hK K P P1 XA XG XL hb
  have P := Aside0.mk P2
  have XA := Aside0.mk XA2
  have XG := Aside0.mk XG2
  have XL := Aside0.mk XL2
  clear P2 XA2 XG2 XL2
  refine pure_ (i := 7) (N := (some 15)) (v := ?_) (a' := ?_) #[true, true, true, true, true, true, true, true] rfl rfl (by kernel_rfl) (fun _ _ _ h => h) (Or.inl ⟨by rfl, ?_⟩) ?_ ?_
  rotate_left
  · intro w'
    go_simp
    with_reducible rfl
  rotate_left
  · simp only [Act.put, List.setIfInBounds_toArray, List.set_cons_zero, List.set_cons_succ, i64_w, i32_w]
    rfl
  refine done_ (by kernel_rfl) ?_
  clear hHeld
  have xL0 := XL.out.at_ 0 (.int .i64 n0) rfl
  have xL1 := XL.out.at_ 1 (.slice (some ⟨g0, 0, none⟩) X0.length d0) rfl
  have qXL := blk_lt XL.out.bx
  go_wp2_with (go_at_call 31; have E_ := E10; have P1 := P.out; have h_ := P1.wipeF (i := 0) n0 rfl HM0.out HZ0.out; (with_reducible refine h_.mono ?_); clear h_; rintro er_ q0 ⟨rfl, P2, hF⟩; clear xL0 xL1 qXL; skip; have XA2 := hF _ _ _ XA.out; clear XA; have XA := Aside0.mk XA2; clear XA2; have XG2 := hF _ _ _ XG.out; clear XG; have XG := Aside0.mk XG2; clear XG2; have XL2 := hF _ _ _ XL.out; clear XL; have XL := Aside0.mk XL2; clear XL2; clear P P1 E10 E_; have P := Aside0.mk P2; clear P2; have E11 := At.mk (n := 11))
  rw [rounds_succ]
  go_wp2
  refine start_ (n := 8) (S := fun w' => w'.cell? ⟨v1.heap.size + 1, 2, none⟩ = some (.int .i64 n1) ∧ w'.cell? ⟨v1.heap.size + 1, 3, none⟩ = some (.slice (some ⟨g1, 0, none⟩) X1.length d1) ∧ w'.cell? ⟨v1.heap.size, 2, none⟩ = some (.int .i64 n1) ∧ w'.cell? ⟨v1.heap.size, 3, none⟩ = some (.slice A1 X1.length c1)) (ds := []) #[false, false, false, false, false, false, false, false] (by kernel_rfl) rfl rfl ⟨XL.out.at_ 2 _ rfl, XL.out.at_ 3 _ rfl, XG.out.at_ 2 _ rfl, XG.out.at_ 3 _ rfl⟩ (fun hHeld => ?_)
  have P2 := P.out.on (below_drew (Below.refl q0.heap.size q0))
  have XA2 := XA.out.on (below_drew (Below.refl q0.heap.size q0))
  have XG2 := XG.out.on (below_drew (Below.refl q0.heap.size q0))
  have XL2 := XL.out.on (below_drew (Below.refl q0.heap.size q0))
  clear P XA XG XL
  have P := Aside0.mk P2
  have XA := Aside0.mk XA2
  have XG := Aside0.mk XG2
  have XL := Aside0.mk XL2
  clear P2 XA2 XG2 XL2
  generalize q0.drew = o1 at P XA XG XL hHeld ⊢
  refine pure_ (i := 0) (N := (some 80)) (v := ?_) (a' := ?_) #[true, false, false, false, false, false, false, false] rfl rfl (by kernel_rfl) (fun _ _ _ h => h) (Or.inl ⟨by rfl, ?_⟩) ?_ ?_
  rotate_left
  · intro w'
    go_simp
    with_reducible rfl
  rotate_left
  · simp only [Act.put, List.setIfInBounds_toArray, List.set_cons_zero, List.set_cons_succ, i64_w, i32_w]
    rfl
  refine pure_ (i := 1) (N := (some 81)) (v := ?_) (a' := ?_) #[true, true, false, false, false, false, false, false] rfl rfl (by kernel_rfl) (fun _ _ _ h => h) (Or.inl ⟨by rfl, ?_⟩) ?_ ?_
  rotate_left
  · intro w'
    go_simp
    with_reducible rfl
  rotate_left
  · simp only [Act.put, List.setIfInBounds_toArray, List.set_cons_zero, List.set_cons_succ, i64_w, i32_w]
    rfl
  refine take_ (i := 2) (N := (some 82)) (v := ?_) (a' := ?_) #[true, true, true, false, false, false, false, false] rfl rfl (by kernel_rfl) (fun _ _ _ h => h) (Or.inl ⟨by rfl, ?_⟩) hHeld ?_ ?_
  rotate_left
  · rintro w' ⟨s0, s1, s2, s3⟩
    go_simp
    with_reducible rfl
  rotate_left
  · simp only [Act.put, List.setIfInBounds_toArray, List.set_cons_zero, List.set_cons_succ, i64_w, i32_w]
    rfl
  refine pure_ (i := 3) (N := (some 83)) (v := ?_) (a' := ?_) #[true, true, true, true, false, false, false, false] rfl rfl (by kernel_rfl) (fun _ _ _ h => h) (Or.inl ⟨by rfl, ?_⟩) ?_ ?_
  rotate_left
  · intro w'
    go_simp
    with_reducible rfl
  rotate_left
  · simp only [Act.put, List.setIfInBounds_toArray, List.set_cons_zero, List.set_cons_succ, i64_w, i32_w]
    rfl
  refine pure_ (i := 4) (N := (some 84)) (v := ?_) (a' := ?_) #[true, true, true, true, true, false, false, false] rfl rfl (by kernel_rfl) (fun _ _ _ h => h) (Or.inl ⟨by rfl, ?_⟩) ?_ ?_
  rotate_left
  · intro w'
    go_simp
    with_reducible rfl
  rotate_left
  · simp only [Act.put, List.setIfInBounds_toArray, List.set_cons_zero, List.set_cons_succ, i64_w, i32_w]
    rfl
  refine take_ (i := 5) (N := (some 85)) (v := ?_) (a' := ?_) #[true, true, true, true, true, true, false, false] rfl rfl (by kernel_rfl) (fun _ _ _ h => h) (Or.inl ⟨by rfl, ?_⟩) hHeld ?_ ?_
  rotate_left
  · rintro w' ⟨s0, s1, s2, s3⟩
    go_simp
    with_reducible rfl
  rotate_left
  · simp only [Act.put, List.setIfInBounds_toArray, List.set_cons_zero, List.set_cons_succ, i64_w, i32_w]
    rfl
  refine one_ (i := 6) (N := (some 86)) #[true, true, true, true, true, true, true, false] rfl rfl (by kernel_rfl) (by decide) (fun K hK => ?_)
  have P1 := P.out
  refine goes_ Try.func30 (by kernel_rfl) rfl #[.agg #[.int .i64 n1, .slice (some ⟨g1, 0, none⟩) X1.length d1], .agg #[.int .i64 n1, .slice A1 X1.length c1]] (by rfl) rfl rfl (by (try simp only [List.map_toArray, List.map_cons, List.map_nil]); first | done | rfl) ?_
  have h_ := Lent.kept k n1 g1 d1 A1 c1 X1 w.heap.size _ (P1.p0.lent 1 _ rfl) (Kd.C_below HC1.out P1.p0.be) HL1.out HM1.out (same_self k _ _ (by have := HM1.out; omega) (by have := HM1.out; have := HK.out; omega))
  with_reducible refine h_.mono ?_
  clear h_
  rintro er_ p1 ⟨rfl, hb⟩
  refine ⟨_, rfl, ?_⟩
  have P2 := P1.on hb
  have XA2 := XA.out.on hb
  have XG2 := XG.out.on hb
  have XL2 := XL.out.on hb
  refine hK.out _ _ ⟨XL2.at_ 2 _ rfl, XL2.at_ 3 _ rfl, XG2.at_ 2 _ rfl, XG2.at_ 3 _ rfl⟩ (fun hHeld => ?_)
  clear hK K P P1 XA XG XL hb
  have P := Aside0.mk P2
  have XA := Aside0.mk XA2
  have XG := Aside0.mk XG2
  have XL := Aside0.mk XL2
  clear P2 XA2 XG2 XL2
  refine pure_ (i := 7) (N := (some 15)) (v := ?_) (a' := ?_) #[true, true, true, true, true, true, true, true] rfl rfl (by kernel_rfl) (fun _ _ _ h => h) (Or.inl ⟨by rfl, ?_⟩) ?_ ?_
  rotate_left
  · intro w'
    go_simp
    with_reducible rfl
  rotate_left
  · simp only [Act.put, List.setIfInBounds_toArray, List.set_cons_zero, List.set_cons_succ, i64_w, i32_w]
    rfl
  refine done_ (by kernel_rfl) ?_
  clear hHeld
  have xL2 := XL.out.at_ 2 (.int .i64 n1) rfl
  have xL3 := XL.out.at_ 3 (.slice (some ⟨g1, 0, none⟩) X1.length d1) rfl
  have qXL := blk_lt XL.out.bx
  go_wp2_with (go_at_call 31; have E_ := E11; have P1 := P.out; have h_ := P1.wipeF (i := 1) n1 rfl HM1.out HZ1.out; (with_reducible refine h_.mono ?_); clear h_; rintro er_ q1 ⟨rfl, P2, hF⟩; clear xL2 xL3 qXL; skip; have XA2 := hF _ _ _ XA.out; clear XA; have XA := Aside0.mk XA2; clear XA2; have XG2 := hF _ _ _ XG.out; clear XG; have XG := Aside0.mk XG2; clear XG2; have XL2 := hF _ _ _ XL.out; clear XL; have XL := Aside0.mk XL2; clear XL2; clear P P1 E11 E_; have P := Aside0.mk P2; clear P2; have E12 := At.mk (n := 12))
  rw [rounds_succ]
  go_wp2
  refine start_ (n := 8) (S := fun w' => w'.cell? ⟨v1.heap.size + 1, 4, none⟩ = some (.int .i64 n2) ∧ w'.cell? ⟨v1.heap.size + 1, 5, none⟩ = some (.slice (some ⟨g2, 0, none⟩) X2.length d2) ∧ w'.cell? ⟨v1.heap.size, 4, none⟩ = some (.int .i64 n2) ∧ w'.cell? ⟨v1.heap.size, 5, none⟩ = some (.slice A2 X2.length c2)) (ds := []) #[false, false, false, false, false, false, false, false] (by kernel_rfl) rfl rfl ⟨XL.out.at_ 4 _ rfl, XL.out.at_ 5 _ rfl, XG.out.at_ 4 _ rfl, XG.out.at_ 5 _ rfl⟩ (fun hHeld => ?_)
  have P2 := P.out.on (below_drew (Below.refl q1.heap.size q1))
  have XA2 := XA.out.on (below_drew (Below.refl q1.heap.size q1))
  have XG2 := XG.out.on (below_drew (Below.refl q1.heap.size q1))
  have XL2 := XL.out.on (below_drew (Below.refl q1.heap.size q1))
  clear P XA XG XL
  have P := Aside0.mk P2
  have XA := Aside0.mk XA2
  have XG := Aside0.mk XG2
  have XL := Aside0.mk XL2
  clear P2 XA2 XG2 XL2
  generalize q1.drew = o2 at P XA XG XL hHeld ⊢
  refine pure_ (i := 0) (N := (some 80)) (v := ?_) (a' := ?_) #[true, false, false, false, false, false, false, false] rfl rfl (by kernel_rfl) (fun _ _ _ h => h) (Or.inl ⟨by rfl, ?_⟩) ?_ ?_
  rotate_left
  · intro w'
    go_simp
    with_reducible rfl
  rotate_left
  · simp only [Act.put, List.setIfInBounds_toArray, List.set_cons_zero, List.set_cons_succ, i64_w, i32_w]
    rfl
  refine pure_ (i := 1) (N := (some 81)) (v := ?_) (a' := ?_) #[true, true, false, false, false, false, false, false] rfl rfl (by kernel_rfl) (fun _ _ _ h => h) (Or.inl ⟨by rfl, ?_⟩) ?_ ?_
  rotate_left
  · intro w'
    go_simp
    with_reducible rfl
  rotate_left
  · simp only [Act.put, List.setIfInBounds_toArray, List.set_cons_zero, List.set_cons_succ, i64_w, i32_w]
    rfl
  refine take_ (i := 2) (N := (some 82)) (v := ?_) (a' := ?_) #[true, true, true, false, false, false, false, false] rfl rfl (by kernel_rfl) (fun _ _ _ h => h) (Or.inl ⟨by rfl, ?_⟩) hHeld ?_ ?_
  rotate_left
  · rintro w' ⟨s0, s1, s2, s3⟩
    go_simp
    with_reducible rfl
  rotate_left
  · simp only [Act.put, List.setIfInBounds_toArray, List.set_cons_zero, List.set_cons_succ, i64_w, i32_w]
    rfl
  refine pure_ (i := 3) (N := (some 83)) (v := ?_) (a' := ?_) #[true, true, true, true, false, false, false, false] rfl rfl (by kernel_rfl) (fun _ _ _ h => h) (Or.inl ⟨by rfl, ?_⟩) ?_ ?_
  rotate_left
  · intro w'
    go_simp
    with_reducible rfl
  rotate_left
  · simp only [Act.put, List.setIfInBounds_toArray, List.set_cons_zero, List.set_cons_succ, i64_w, i32_w]
    rfl
  refine pure_ (i := 4) (N := (some 84)) (v := ?_) (a' := ?_) #[true, true, true, true, true, false, false, false] rfl rfl (by kernel_rfl) (fun _ _ _ h => h) (Or.inl ⟨by rfl, ?_⟩) ?_ ?_
  rotate_left
  · intro w'
    go_simp
    with_reducible rfl
  rotate_left
  · simp only [Act.put, List.setIfInBounds_toArray, List.set_cons_zero, List.set_cons_succ, i64_w, i32_w]
    rfl
  refine take_ (i := 5) (N := (some 85)) (v := ?_) (a' := ?_) #[true, true, true, true, true, true, false, false] rfl rfl (by kernel_rfl) (fun _ _ _ h => h) (Or.inl ⟨by rfl, ?_⟩) hHeld ?_ ?_
  rotate_left
  · rintro w' ⟨s0, s1, s2, s3⟩
    go_simp
    with_reducible rfl
  rotate_left
  · simp only [Act.put, List.setIfInBounds_toArray, List.set_cons_zero, List.set_cons_succ, i64_w, i32_w]
    rfl
  refine one_ (i := 6) (N := (some 86)) #[true, true, true, true, true, true, true, false] rfl rfl (by kernel_rfl) (by decide) (fun K hK => ?_)
  have P1 := P.out
  refine goes_ Try.func30 (by kernel_rfl) rfl #[.agg #[.int .i64 n2, .slice (some ⟨g2, 0, none⟩) X2.length d2], .agg #[.int .i64 n2, .slice A2 X2.length c2]] (by rfl) rfl rfl (by (try simp only [List.map_toArray, List.map_cons, List.map_nil]); first | done | rfl) ?_
  have h_ := Lent.kept k n2 g2 d2 A2 c2 X2 w.heap.size _ (P1.p0.lent 2 _ rfl) (Kd.C_below HC2.out P1.p0.be) HL2.out HM2.out (same_self k _ _ (by have := HM2.out; omega) (by have := HM2.out; have := HK.out; omega))
  with_reducible refine h_.mono ?_
  clear h_
  rintro er_ p2 ⟨rfl, hb⟩
  refine ⟨_, rfl, ?_⟩
  have P2 := P1.on hb
  have XA2 := XA.out.on hb
  have XG2 := XG.out.on hb
  have XL2 := XL.out.on hb
  refine hK.out _ _ ⟨XL2.at_ 4 _ rfl, XL2.at_ 5 _ rfl, XG2.at_ 4 _ rfl, XG2.at_ 5 _ rfl⟩ (fun hHeld => ?_)
  clear hK K P P1 XA XG XL hb
  have P := Aside0.mk P2
  have XA := Aside0.mk XA2
  have XG := Aside0.mk XG2
  have XL := Aside0.mk XL2
  clear P2 XA2 XG2 XL2
  refine pure_ (i := 7) (N := (some 15)) (v := ?_) (a' := ?_) #[true, true, true, true, true, true, true, true] rfl rfl (by kernel_rfl) (fun _ _ _ h => h) (Or.inl ⟨by rfl, ?_⟩) ?_ ?_
  rotate_left
  · intro w'
    go_simp
    with_reducible rfl
  rotate_left
  · simp only [Act.put, List.setIfInBounds_toArray, List.set_cons_zero, List.set_cons_succ, i64_w, i32_w]
    rfl
  refine done_ (by kernel_rfl) ?_
  clear hHeld
  have xL4 := XL.out.at_ 4 (.int .i64 n2) rfl
  have xL5 := XL.out.at_ 5 (.slice (some ⟨g2, 0, none⟩) X2.length d2) rfl
  have qXL := blk_lt XL.out.bx
  go_wp2_with (go_at_call 31; have E_ := E12; have P1 := P.out; have h_ := P1.wipeF (i := 2) n2 rfl HM2.out HZ2.out; (with_reducible refine h_.mono ?_); clear h_; rintro er_ q2 ⟨rfl, P2, hF⟩; clear xL4 xL5 qXL; skip; have XA2 := hF _ _ _ XA.out; clear XA; have XA := Aside0.mk XA2; clear XA2; have XG2 := hF _ _ _ XG.out; clear XG; have XG := Aside0.mk XG2; clear XG2; have XL2 := hF _ _ _ XL.out; clear XL; have XL := Aside0.mk XL2; clear XL2; clear P P1 E12 E_; have P := Aside0.mk P2; clear P2; have E13 := At.mk (n := 13))
  rw [rounds_succ]
  go_wp2
  refine start_ (n := 8) (S := fun w' => w'.cell? ⟨v1.heap.size + 1, 6, none⟩ = some (.int .i64 n3) ∧ w'.cell? ⟨v1.heap.size + 1, 7, none⟩ = some (.slice (some ⟨g3, 0, none⟩) X3.length d3) ∧ w'.cell? ⟨v1.heap.size, 6, none⟩ = some (.int .i64 n3) ∧ w'.cell? ⟨v1.heap.size, 7, none⟩ = some (.slice A3 X3.length c3)) (ds := []) #[false, false, false, false, false, false, false, false] (by kernel_rfl) rfl rfl ⟨XL.out.at_ 6 _ rfl, XL.out.at_ 7 _ rfl, XG.out.at_ 6 _ rfl, XG.out.at_ 7 _ rfl⟩ (fun hHeld => ?_)
  have P2 := P.out.on (below_drew (Below.refl q2.heap.size q2))
  have XA2 := XA.out.on (below_drew (Below.refl q2.heap.size q2))
  have XG2 := XG.out.on (below_drew (Below.refl q2.heap.size q2))
  have XL2 := XL.out.on (below_drew (Below.refl q2.heap.size q2))
  clear P XA XG XL
  have P := Aside0.mk P2
  have XA := Aside0.mk XA2
  have XG := Aside0.mk XG2
  have XL := Aside0.mk XL2
  clear P2 XA2 XG2 XL2
  generalize q2.drew = o3 at P XA XG XL hHeld ⊢
  refine pure_ (i := 0) (N := (some 80)) (v := ?_) (a' := ?_) #[true, false, false, false, false, false, false, false] rfl rfl (by kernel_rfl) (fun _ _ _ h => h) (Or.inl ⟨by rfl, ?_⟩) ?_ ?_
  rotate_left
  · intro w'
    go_simp
    with_reducible rfl
  rotate_left
  · simp only [Act.put, List.setIfInBounds_toArray, List.set_cons_zero, List.set_cons_succ, i64_w, i32_w]
    rfl
  refine pure_ (i := 1) (N := (some 81)) (v := ?_) (a' := ?_) #[true, true, false, false, false, false, false, false] rfl rfl (by kernel_rfl) (fun _ _ _ h => h) (Or.inl ⟨by rfl, ?_⟩) ?_ ?_
  rotate_left
  · intro w'
    go_simp
    with_reducible rfl
  rotate_left
  · simp only [Act.put, List.setIfInBounds_toArray, List.set_cons_zero, List.set_cons_succ, i64_w, i32_w]
    rfl
  refine take_ (i := 2) (N := (some 82)) (v := ?_) (a' := ?_) #[true, true, true, false, false, false, false, false] rfl rfl (by kernel_rfl) (fun _ _ _ h => h) (Or.inl ⟨by rfl, ?_⟩) hHeld ?_ ?_
  rotate_left
  · rintro w' ⟨s0, s1, s2, s3⟩
    go_simp
    with_reducible rfl
  rotate_left
  · simp only [Act.put, List.setIfInBounds_toArray, List.set_cons_zero, List.set_cons_succ, i64_w, i32_w]
    rfl
  refine pure_ (i := 3) (N := (some 83)) (v := ?_) (a' := ?_) #[true, true, true, true, false, false, false, false] rfl rfl (by kernel_rfl) (fun _ _ _ h => h) (Or.inl ⟨by rfl, ?_⟩) ?_ ?_
  rotate_left
  · intro w'
    go_simp
    with_reducible rfl
  rotate_left
  · simp only [Act.put, List.setIfInBounds_toArray, List.set_cons_zero, List.set_cons_succ, i64_w, i32_w]
    rfl
  refine pure_ (i := 4) (N := (some 84)) (v := ?_) (a' := ?_) #[true, true, true, true, true, false, false, false] rfl rfl (by kernel_rfl) (fun _ _ _ h => h) (Or.inl ⟨by rfl, ?_⟩) ?_ ?_
  rotate_left
  · intro w'
    go_simp
    with_reducible rfl
  rotate_left
  · simp only [Act.put, List.setIfInBounds_toArray, List.set_cons_zero, List.set_cons_succ, i64_w, i32_w]
    rfl
  refine take_ (i := 5) (N := (some 85)) (v := ?_) (a' := ?_) #[true, true, true, true, true, true, false, false] rfl rfl (by kernel_rfl) (fun _ _ _ h => h) (Or.inl ⟨by rfl, ?_⟩) hHeld ?_ ?_
  rotate_left
  · rintro w' ⟨s0, s1, s2, s3⟩
    go_simp
    with_reducible rfl
  rotate_left
  · simp only [Act.put, List.setIfInBounds_toArray, List.set_cons_zero, List.set_cons_succ, i64_w, i32_w]
    rfl
  refine one_ (i := 6) (N := (some 86)) #[true, true, true, true, true, true, true, false] rfl rfl (by kernel_rfl) (by decide) (fun K hK => ?_)
  have P1 := P.out
  refine goes_ Try.func30 (by kernel_rfl) rfl #[.agg #[.int .i64 n3, .slice (some ⟨g3, 0, none⟩) X3.length d3], .agg #[.int .i64 n3, .slice A3 X3.length c3]] (by rfl) rfl rfl (by (try simp only [List.map_toArray, List.map_cons, List.map_nil]); first | done | rfl) ?_
  have h_ := Lent.kept k n3 g3 d3 A3 c3 X3 w.heap.size _ (P1.p0.lent 3 _ rfl) (Kd.C_below HC3.out P1.p0.be) HL3.out HM3.out (same_self k _ _ (by have := HM3.out; omega) (by have := HM3.out; have := HK.out; omega))
  with_reducible refine h_.mono ?_
  clear h_
  rintro er_ p3 ⟨rfl, hb⟩
  refine ⟨_, rfl, ?_⟩
  have P2 := P1.on hb
  have XA2 := XA.out.on hb
  have XG2 := XG.out.on hb
  have XL2 := XL.out.on hb
  refine hK.out _ _ ⟨XL2.at_ 6 _ rfl, XL2.at_ 7 _ rfl, XG2.at_ 6 _ rfl, XG2.at_ 7 _ rfl⟩ (fun hHeld => ?_)
  clear hK K P P1 XA XG XL hb
  have P := Aside0.mk P2
  have XA := Aside0.mk XA2
  have XG := Aside0.mk XG2
  have XL := Aside0.mk XL2
  clear P2 XA2 XG2 XL2
  refine pure_ (i := 7) (N := (some 15)) (v := ?_) (a' := ?_) #[true, true, true, true, true, true, true, true] rfl rfl (by kernel_rfl) (fun _ _ _ h => h) (Or.inl ⟨by rfl, ?_⟩) ?_ ?_
  rotate_left
  · intro w'
    go_simp
    with_reducible rfl
  rotate_left
  · simp only [Act.put, List.setIfInBounds_toArray, List.set_cons_zero, List.set_cons_succ, i64_w, i32_w]
    rfl
  refine done_ (by kernel_rfl) ?_
  clear hHeld
  have xL6 := XL.out.at_ 6 (.int .i64 n3) rfl
  have xL7 := XL.out.at_ 7 (.slice (some ⟨g3, 0, none⟩) X3.length d3) rfl
  have qXL := blk_lt XL.out.bx
  go_wp2_with (go_at_call 31; have E_ := E13; have P1 := P.out; have h_ := P1.wipeF (i := 3) n3 rfl HM3.out HZ3.out; (with_reducible refine h_.mono ?_); clear h_; rintro er_ q3 ⟨rfl, P2, hF⟩; clear xL6 xL7 qXL; skip; have XA2 := hF _ _ _ XA.out; clear XA; have XA := Aside0.mk XA2; clear XA2; have XG2 := hF _ _ _ XG.out; clear XG; have XG := Aside0.mk XG2; clear XG2; have XL2 := hF _ _ _ XL.out; clear XL; have XL := Aside0.mk XL2; clear XL2; clear P P1 E13 E_; have P := Aside0.mk P2; clear P2; have E14 := At.mk (n := 14))
  rw [rounds_succ]
  have xL0 := XL.out.at_ 0 (.int .i64 n0) rfl
  have xL1 := XL.out.at_ 1 (.slice (some ⟨g0, 0, none⟩) X0.length d0) rfl
  have xL2 := XL.out.at_ 2 (.int .i64 n1) rfl
  have xL3 := XL.out.at_ 3 (.slice (some ⟨g1, 0, none⟩) X1.length d1) rfl
  have xL4 := XL.out.at_ 4 (.int .i64 n2) rfl
  have xL5 := XL.out.at_ 5 (.slice (some ⟨g2, 0, none⟩) X2.length d2) rfl
  have xL6 := XL.out.at_ 6 (.int .i64 n3) rfl
  have xL7 := XL.out.at_ 7 (.slice (some ⟨g3, 0, none⟩) X3.length d3) rfl
  have xA8 := XA.out.at_ 8 (.int .i64 n) rfl
  have qXA := blk_lt XA.out.bx
  have qXL := blk_lt XL.out.bx
  go_wp2_with (first
    | (go_at_call 35; have E_ := E14; have P1 := P.out; have h_ := T4.out (some ⟨g0, 0, none⟩) (some ⟨g1, 0, none⟩) (some ⟨g2, 0, none⟩) (some ⟨g3, 0, none⟩) d0 d1 d2 d3 _ (P1.p0.C (j := 0) rfl) (P1.p0.cap (j := 0) rfl) (P1.p0.C (j := 1) rfl) (P1.p0.cap (j := 1) rfl) (P1.p0.C (j := 2) rfl) (P1.p0.cap (j := 2) rfl) (P1.p0.C (j := 3) rfl) (P1.p0.cap (j := 3) rfl); rw [HLZ0.out, HLZ1.out, HLZ2.out, HLZ3.out] at h_; (with_reducible refine h_.mono ?_); clear h_; rintro er_ v15 ⟨t_, rfl, ho, hb⟩; clear xL0 xL1 xL2 xL3 xL4 xL5 xL6 xL7 xA8 qXA qXL; have hR : Kd.R (Kd.int .u64) 22 _ _ (fun _ => True) t_ Y2 := Kd.R_of_own (enc := Value.int .u64) (h1 := fun _ => rfl) ho (fun _ _ => trivial); have P2 := P1.told hb hR; obtain ⟨A_3, c_3, rfl, -, -⟩ := Kd.R_reads hR; clear hR ho; have XA2 := BoxF.on XA.out hb; clear XA; have XA := Aside0.mk XA2; clear XA2; have XG2 := BoxF.on XG.out hb; clear XG; have XG := Aside0.mk XG2; clear XG2; have XL2 := BoxF.on XL.out hb; clear XL; have XL := Aside0.mk XL2; clear XL2; clear P P1 E14 E_; have P := Aside0.mk P2; clear P2; have E15 := At.mk (n := 15); have xL0 := XL.out.at_ 0 (.int .i64 n0) rfl; have xL1 := XL.out.at_ 1 (.slice (some ⟨g0, 0, none⟩) X0.length d0) rfl; have xL2 := XL.out.at_ 2 (.int .i64 n1) rfl; have xL3 := XL.out.at_ 3 (.slice (some ⟨g1, 0, none⟩) X1.length d1) rfl; have xL4 := XL.out.at_ 4 (.int .i64 n2) rfl; have xL5 := XL.out.at_ 5 (.slice (some ⟨g2, 0, none⟩) X2.length d2) rfl; have xL6 := XL.out.at_ 6 (.int .i64 n3) rfl; have xL7 := XL.out.at_ 7 (.slice (some ⟨g3, 0, none⟩) X3.length d3) rfl; have xA8 := XA.out.at_ 8 (.int .i64 n) rfl; have qXA := blk_lt XA.out.bx; have qXL := blk_lt XL.out.bx)
    | (go_at_call 36; have E_ := E15; have P1 := (P.out.push [.int .i64 m2, .slice A_3 Y2.length c_3] (v15.heap.size) rfl); have h_ := T3.out (some ⟨g0, 0, none⟩) (some ⟨g1, 0, none⟩) (some ⟨g2, 0, none⟩) (some ⟨g3, 0, none⟩) d0 d1 d2 d3 _ (P1.p0.C (j := 0) rfl) (P1.p0.cap (j := 0) rfl) (P1.p0.C (j := 1) rfl) (P1.p0.cap (j := 1) rfl) (P1.p0.C (j := 2) rfl) (P1.p0.cap (j := 2) rfl) (P1.p0.C (j := 3) rfl) (P1.p0.cap (j := 3) rfl); rw [HLZ0.out, HLZ1.out, HLZ2.out, HLZ3.out] at h_; (with_reducible refine h_.mono ?_); clear h_; rintro er_ v16 ⟨t_, rfl, ho, hb⟩; clear xL0 xL1 xL2 xL3 xL4 xL5 xL6 xL7 xA8 qXA qXL; have hR : Kd.R (Kd.int .u64) 22 _ _ (fun _ => True) t_ Y2 := Kd.R_of_own (enc := Value.int .u64) (h1 := fun _ => rfl) ho (fun _ _ => trivial); have P2 := P1.told hb hR; obtain ⟨A_4, c_4, rfl, -, -⟩ := Kd.R_reads hR; clear hR ho; have XA2 := BoxF.on (BoxF.on XA.out (below_alloc (Below.refl _ _) _)) hb; clear XA; have XA := Aside0.mk XA2; clear XA2; have XG2 := BoxF.on (BoxF.on XG.out (below_alloc (Below.refl _ _) _)) hb; clear XG; have XG := Aside0.mk XG2; clear XG2; have XL2 := BoxF.on (BoxF.on XL.out (below_alloc (Below.refl _ _) _)) hb; clear XL; have XL := Aside0.mk XL2; clear XL2; clear P P1 E15 E_; have P := Aside0.mk P2; clear P2; have E16 := At.mk (n := 16); have z_ := P.out.p0.at_ (i := 3) rfl; have q_other := z_.1; have y_other0 := z_.2 0 _ rfl; have y_other1 := z_.2 1 _ rfl; clear z_)
    | (go_at_call 20; have E_ := E16; have P1 := (P.out.push [.int .i64 m2, .slice A_4 Y2.length c_4] (v16.heap.size) rfl); have h_ := P1.addsF k 4 3 m2 e2 A_4 A_3 c_4 c_3 Y2 rfl rfl rfl (by simp) HY2.out (by have := HY2.out; have := HK.out; omega); (with_reducible refine h_.mono ?_); clear h_; rintro er_ v17 ⟨rfl, gv_, wv_, P2, hF⟩; clear q_other y_other0 y_other1; skip; have XA2 := hF _ _ _ (BoxF.on XA.out (below_alloc (Below.refl _ _) _)); clear XA; have XA := Aside0.mk XA2; clear XA2; have XG2 := hF _ _ _ (BoxF.on XG.out (below_alloc (Below.refl _ _) _)); clear XG; have XG := Aside0.mk XG2; clear XG2; have XL2 := hF _ _ _ (BoxF.on XL.out (below_alloc (Below.refl _ _) _)); clear XL; have XL := Aside0.mk XL2; clear XL2; clear P P1 E16 E_; have P := Aside0.mk P2; clear P2; have E17 := At.mk (n := 17))
    | (go_at_call 23; have E_ := E17; have P1 := P.out; have h_ := P1.stands k (by decide) (by simp) (by have := HK.out; omega); (with_reducible refine h_.mono ?_); clear h_; rintro er_ vf ⟨rfl, hb⟩; clear P P1 E17 E_; have HF := Aside0.mk hb; clear hb))
  go_ret
  exact ⟨rfl, HF.out⟩
theorem law (n0 n1 n2 n3 n : Int) (A0 A1 A2 A3 : Option Addr) (c0 c1 c2 c3 : Nat) (X0 X1 X2 X3 : List Int) (w : World)
    (hC0 : Kd.C (Kd.int .u64) w A0 X0.length X0) (hl0 : X0.length ≤ c0) (hm0 : X0.length ≤ 17592186043904) (hu0 : RefPlain.U64 X0) (hC1 : Kd.C (Kd.int .u64) w A1 X1.length X1) (hl1 : X1.length ≤ c1) (hm1 : X1.length ≤ 17592186043904) (hu1 : RefPlain.U64 X1) (hC2 : Kd.C (Kd.int .u64) w A2 X2.length X2) (hl2 : X2.length ≤ c2) (hm2 : X2.length ≤ 17592186043904) (hu2 : RefPlain.U64 X2) (hC3 : Kd.C (Kd.int .u64) w A3 X3.length X3) (hl3 : X3.length ≤ c3) (hm3 : X3.length ≤ 17592186043904) (hu3 : RefPlain.U64 X3) :
    Calls Try.prog 9 #[.agg #[.int .i64 n0, .slice A0 X0.length c0, .int .i64 n1, .slice A1 X1.length c1, .int .i64 n2, .slice A2 X2.length c2, .int .i64 n3, .slice A3 X3.length c3, .int .i64 n]] w fun e w' => e = .returned (.bool true) ∧ Below w.heap.size w w' := by
  obtain ⟨k, hk⟩ : ∃ k, k = 17592186043908 := ⟨_, rfl⟩
  obtain ⟨m1, Y1, e1, t1, t2, y1⟩ := IsPlain.is_agree n0 n1 n2 n3 n X0 X1 X2 X3 hu0 hu1 hu2 hu3
  obtain ⟨m2, Y2, e2, t3, t4, y2⟩ := IsPlain.is_agree n0 n1 n2 n3 n _ _ _ _ (RefPlain.u64_wiped X0) (RefPlain.u64_wiped X1) (RefPlain.u64_wiped X2) (RefPlain.u64_wiped X3)
  exact core k n0 n1 n2 n3 n m1 m2 e1 e2 A0 A1 A2 A3 c0 c1 c2 c3 X0 _ X1 _ X2 _ X3 _ Y1 Y2 w hC0 hl0 hm0 rfl hC1 hl1 hm1 rfl hC2 hl2 hm2 rfl hC3 hl3 hm3 rfl (by omega) (at_rounds (g := fun k => vivariumlaw02_alive.f k) (fun k => vivariumlaw02_alive.mono k) (by omega) Alive.alive_true) y1 y2 t1 t2 t3 t4
end Go.Proofs.Ytlghmadoogblcaa.IsLaw
end
section
namespace Go.Proofs.Ytlghmadoogblcaa.OpenRow
open Go Go.RowKit Go.Proofs.YtlghmadoogblcaaW.PrintWords Go.Proofs.Ytlghmadoogblcaa.RefPlain
set_option linter.unusedVariables false
theorem open_words {H : Type} {enc : TypeId × Value → H} {P : Program} {w : World} {base n : Nat} {spare : Nat → Bool} {held : Bool} {t e : TypeId} {v : Value} {x : DataW H × List MemPlace} (ht : P.underlying t = some (.slice e)) (he : P.underlying e = some (.int .u64)) (hc : P.cellsOf e = 1)
    (h : DataW.trod enc P w base spare held n t [v] = some x) : ∃ (A : Option Addr) (c : Nat) (zs : List Int), v = .slice A zs.length c ∧ zs.length ≤ c ∧ Kd.C (Kd.int .u64) w A zs.length zs ∧ U64 zs ∧ (zs.length = 0 ∨ ∃ elems rest, elems.length = zs.length ∧ x.1 = .slice elems rest) := by
  rcases Go.ChangeShapes.open_ints ht he hc h with ⟨h1, _⟩ | ⟨a, len, cap, zs, h1, _, hl, hm, hz, hx, hcell, hwf⟩
  · obtain rfl : v = .slice none 0 0 := by simpa using h1
    exact ⟨none, 0, [], rfl, Nat.le_refl _, Kd.C_nil _ _, fun v hv => by simp at hv, .inl rfl⟩
  · obtain rfl : v = .slice (some a) len cap := by simpa using h1
    have hzl : len ≤ zs.length := by rw [hz]; split <;> omega
    have hlen : (zs.take len).length = len := by simp; omega
    refine ⟨some a, cap, zs.take len, by rw [hlen], by rw [hlen]; exact hl, ⟨rfl, by rw [hlen]; simp [maxLen] at hm; omega, fun _ => ⟨a, rfl, fun j p hj => ⟨[.int .u64 p], rfl, rfl, fun i u hu => ?_⟩⟩⟩, fun q hq => ?_, .inr ⟨_, _, ?_, by rw [hx]⟩⟩
    · have hj' : j < len := by
        have := (List.getElem?_eq_some_iff.1 hj).1
        omega
      have hp : zs[j]? = some p := by rwa [List.getElem?_take_of_lt hj'] at hj
      match i, hu with
      | 0, hu =>
        obtain rfl : Value.int .u64 p = u := by simpa using hu
        have := hcell j (by omega)
        rw [List.getD_eq_getElem?_getD, hp] at this
        simpa [Kd.int, Kd.scalar] using this
      | i + 1, hu => simp at hu
    · have := hwf q (List.mem_of_mem_take hq)
      simp [Lit.wf, IntKind.min, IntKind.max, IntKind.bits, IntKind.signed] at this
      omega
    · simp [Go.ChangeShapes.lits]
end Go.Proofs.Ytlghmadoogblcaa.OpenRow
end
section
namespace Go.Proofs.Ytlghmadoogblcaa.OpenAsked
open Go Go.RowKit Go.ChangeShapes Go.WideShapes Go.Proofs.YtlghmadoogblcaaW.PrintWords Go.Proofs.Ytlghmadoogblcaa.RefPlain
set_option linter.unusedVariables false
set_option maxRecDepth 100000
theorem cells3 : Try.prog.cellsOf 3 = 1 := by kernel_rfl
theorem cells29 : Try.prog.cellsOf 29 = 1 := by kernel_rfl
theorem cells31 : Try.prog.cellsOf 31 = 2 := by kernel_rfl
theorem cells62 : Try.prog.cellsOf 62 = 9 := by kernel_rfl
section
variable {H : Type} {enc : TypeId × Value → H} {w : World} {base n : Nat} {spare : Nat → Bool} {held : Bool}
structure IsRow (w : World) (a b : Value) (x : DataW H) (z : Int) (A : Option Addr) (c : Nat) (zs : List Int) : Prop where
  ea : a = .int .i64 z
  eb : b = .slice A zs.length c
  le : zs.length ≤ c
  C : Kd.C (Kd.int .u64) w A zs.length zs
  u : U64 zs
  d : zs.length = 0 ∨ ∃ d0 elems rest, elems.length = zs.length ∧ x = .agg [d0, .slice elems rest]
theorem open_row {a b : Value} {x : DataW H × List MemPlace} (h : DataW.trod enc Try.prog w base spare held n 31 [a, b] = some x) : ∃ z A c zs, IsRow w a b x.1 z A c zs := by
  obtain ⟨xs, m, _, hx, _, hlen, hg⟩ := DataW.trod_struct Try.underlying31 h
  match xs, hlen with
  | [y0, y1], _ =>
    have g0 : DataW.trod enc Try.prog w base spare held m 3 (([a, b].drop 0).take (Try.prog.cellsOf 3)) = some y0 := hg 0 _ rfl
    have g1 : DataW.trod enc Try.prog w base spare held m 29 (([a, b].drop 1).take (Try.prog.cellsOf 29)) = some y1 := hg 1 _ rfl
    rw [cells3] at g0
    rw [cells29] at g1
    have g0' : DataW.trod enc Try.prog w base spare held m 3 [a] = some y0 := g0
    have g1' : DataW.trod enc Try.prog w base spare held m 29 [b] = some y1 := g1
    obtain ⟨z, e0, _, _⟩ := DataW.trod_int Try.underlying3 g0'
    obtain ⟨A, c, zs, eb, hl, hC, hu, hd⟩ := OpenRow.open_words Try.underlying29 Try.underlying22 (by kernel_rfl) g1'
    refine ⟨z, A, c, zs, by simpa using e0, eb, hl, hC, hu, ?_⟩
    rcases hd with hd | ⟨el, sp, hel, hd⟩
    · exact .inl hd
    · exact .inr ⟨y0.1, el, sp, hel, by rw [hx]; simp [hd]⟩
theorem open_asked {ts : List TypeId} {ds : List (DataW H)} {r : Reach} {b0 : Nat} {v : Value} {d : DataW H} {p : List MemPlace} (hsz : (DataW.weightsEach Try.prog ts ds).all (· ≤ reachBytes) = true) {j : Nat} (ht : ts[j]? = some 62) (hd : ds[j]? = some d)
    (hv : Value.okWide Try.prog w r b0 62 v) (h : DataW.Trod enc Try.prog w base spare held 62 v d p) :
    ∃ (z0 z1 z2 z3 z : Int) (A0 A1 A2 A3 : Option Addr) (c0 c1 c2 c3 : Nat) (X0 X1 X2 X3 : List Int),
      v = .agg #[.int .i64 z0, .slice A0 X0.length c0, .int .i64 z1, .slice A1 X1.length c1, .int .i64 z2, .slice A2 X2.length c2, .int .i64 z3, .slice A3 X3.length c3, .int .i64 z] ∧
      (X0.length ≤ c0 ∧ Kd.C (Kd.int .u64) w A0 X0.length X0 ∧ U64 X0 ∧ X0.length ≤ 17592186043904) ∧ (X1.length ≤ c1 ∧ Kd.C (Kd.int .u64) w A1 X1.length X1 ∧ U64 X1 ∧ X1.length ≤ 17592186043904) ∧
      (X2.length ≤ c2 ∧ Kd.C (Kd.int .u64) w A2 X2.length X2 ∧ U64 X2 ∧ X2.length ≤ 17592186043904) ∧ (X3.length ≤ c3 ∧ Kd.C (Kd.int .u64) w A3 X3.length X3 ∧ U64 X3 ∧ X3.length ≤ 17592186043904) := by
  obtain ⟨cs, rfl, hs⟩ := okWide_struct Try.underlying62 hv
  rw [cells62] at hs
  obtain ⟨l⟩ := cs
  match l, hs with
  | [a0, b0, a1, b1, a2, b2, a3, b3, q], _ =>
    obtain ⟨fuel, hf⟩ := h
    obtain ⟨xs, m, _, hx, _, hlen, hg⟩ := DataW.trod_struct Try.underlying62 hf
    match xs, hlen with
    | [y0, y1, y2, y3, y4], _ =>
      have g0 : DataW.trod enc Try.prog w base spare held m 31 (([a0, b0, a1, b1, a2, b2, a3, b3, q].drop 0).take (Try.prog.cellsOf 31)) = some y0 := hg 0 _ rfl
      have g1 : DataW.trod enc Try.prog w base spare held m 31 (([a0, b0, a1, b1, a2, b2, a3, b3, q].drop 2).take (Try.prog.cellsOf 31)) = some y1 := hg 1 _ rfl
      have g2 : DataW.trod enc Try.prog w base spare held m 31 (([a0, b0, a1, b1, a2, b2, a3, b3, q].drop 4).take (Try.prog.cellsOf 31)) = some y2 := hg 2 _ rfl
      have g3 : DataW.trod enc Try.prog w base spare held m 31 (([a0, b0, a1, b1, a2, b2, a3, b3, q].drop 6).take (Try.prog.cellsOf 31)) = some y3 := hg 3 _ rfl
      have g4 : DataW.trod enc Try.prog w base spare held m 3 (([a0, b0, a1, b1, a2, b2, a3, b3, q].drop 8).take (Try.prog.cellsOf 3)) = some y4 := hg 4 _ rfl
      rw [cells31] at g0 g1 g2 g3
      rw [cells3] at g4
      have k0 : DataW.trod enc Try.prog w base spare held m 31 [a0, b0] = some y0 := g0
      have k1 : DataW.trod enc Try.prog w base spare held m 31 [a1, b1] = some y1 := g1
      have k2 : DataW.trod enc Try.prog w base spare held m 31 [a2, b2] = some y2 := g2
      have k3 : DataW.trod enc Try.prog w base spare held m 31 [a3, b3] = some y3 := g3
      have k4 : DataW.trod enc Try.prog w base spare held m 3 [q] = some y4 := g4
      obtain ⟨z0, A0, c0, X0, r0⟩ := open_row k0
      obtain ⟨z1, A1, c1, X1, r1⟩ := open_row k1
      obtain ⟨z2, A2, c2, X2, r2⟩ := open_row k2
      obtain ⟨z3, A3, c3, X3, r3⟩ := open_row k3
      obtain ⟨z, e4, _, _⟩ := DataW.trod_int Try.underlying3 k4
      have e4 : q = .int .i64 z := by simpa using e4
      have hde : d = .agg [y0.1, y1.1, y2.1, y3.1, y4.1] := by
        injection hx with hx _
      have size : ∀ {zs : List Int} {x : DataW H}, x ∈ [y0.1, y1.1, y2.1, y3.1] → (zs.length = 0 ∨ ∃ d0 elems rest, elems.length = zs.length ∧ x = .agg [d0, .slice elems rest]) → zs.length ≤ 17592186043904 := by
        intro zs x hxm hd2
        rcases hd2 with h0 | ⟨d0, el, sp, hel, rfl⟩
        · omega
        · have hb : Try.prog.bytesOf 22 = 8 := by kernel_rfl
          have hw : (el.length + sp.length) * Try.prog.bytesOf 22 ∈ DataW.weights Try.prog 31 (DataW.agg [d0, .slice el sp]) := by
            simp [DataW.weights, Try.underlying31, Try.underlying29, DataW.weightsEach]
          have hw2 : (el.length + sp.length) * Try.prog.bytesOf 22 ∈ DataW.weights Try.prog 62 d := by
            rw [hde]
            simp only [DataW.weights, Try.underlying62, List.map_cons, List.map_nil, DataW.weightsEach, List.mem_append]
            simp only [List.mem_cons, List.not_mem_nil, or_false] at hxm
            rcases hxm with e | e | e | e <;> rw [← e] <;> simp only [hw, true_or, or_true]
          have h2 := List.all_eq_true.1 hsz _ (DataW.weights_mem_each ht hd _ hw2)
          rw [hb] at h2
          have h3 : (el.length + sp.length) * 8 ≤ reachBytes := by simpa using h2
          have h4 : reachBytes = 140737488351232 := rfl
          omega
      refine ⟨z0, z1, z2, z3, z, A0, A1, A2, A3, c0, c1, c2, c3, X0, X1, X2, X3, ?_, ⟨r0.le, r0.C, r0.u, size (by simp) r0.d⟩, ⟨r1.le, r1.C, r1.u, size (by simp) r1.d⟩, ⟨r2.le, r2.C, r2.u, size (by simp) r2.d⟩, ⟨r3.le, r3.C, r3.u, size (by simp) r3.d⟩⟩
      rw [r0.ea, r0.eb, r1.ea, r1.eb, r2.ea, r2.eb, r3.ea, r3.eb, e4]
end
end Go.Proofs.Ytlghmadoogblcaa.OpenAsked
end
section
namespace Go.Proofs.Ytlghmadoogblcaa.wordsIs
open Go.ChangeShapes Go.WideShapes Go.ChangeAt Go.RowKit Go.Joins Go.Deep
open Go.ChangeMaps (open_string shut_string)
set_option linter.unusedVariables false
theorem own : ownKnob Try.prog.godebug = none := by kernel_rfl
theorem laidOut : laidOutB Try.prog = true := by kernel_rfl
set_option maxRecDepth 100000 in
theorem lifted (os : Os) (started : os.Started) (H : Type) (enc : TypeId × Value → H) :
    ReturnsInHanded {} Try.checked os 9 .any (Rows.wordsIsSpec.pre6 enc Try.prog Try.f9 Rows.wordsIsRow.domain false) (Rows.wordsIsSpec.post enc Try.prog Try.f9 false true false false) := by
  refine returnsInHanded_of_change_sized (C := Try.checked) own started (by kernel_rfl) Try.func9
    (ChangeSpec.witness6 (enc := enc) (C := Try.checked) false ⟨#[], #[.agg #[.int .i64 0, .slice none 0 0, .int .i64 0, .slice none 0 0, .int .i64 0, .slice none 0 0, .int .i64 0, .slice none 0 0, .int .i64 0]], []⟩ 8 (by kernel_rfl) (by kernel_rfl) (by kernel_rfl) (by kernel_rfl)) ?_
  intro W base args ds gs before hval0 hW hcnd hsz0 _
  have hsz : (DataW.weightsEach Try.prog (Try.f9.params.toList ++ Rows.wordsIsSpec.plain.varTypes Try.prog) (ds ++ gs)).all (· ≤ reachBytes) = true := hsz0
  have hval : ∀ (j : Nat) t v, Try.f9.params[j]? = some t → args[j]? = some v → Value.okWide Try.prog W .any base t v := hval0
  have hW' := hW
  obtain ⟨p, q, hA0, hV, rfl, hfz, hnd⟩ := hW
  have hA : DataW.TrodAll enc Try.prog W 0 (fun _ => true) true Try.f9.params.toList args.toList ds p := hA0
  rw [Try.params9] at hA hval hsz
  obtain ⟨v0, vs0, d0, ds0, p0, q0, hargs, rfl, rfl, h0, r0⟩ := trodAll_cons hA
  obtain ⟨rfl, rfl, rfl⟩ := trodAll_nil r0
  obtain rfl : args = #[v0] := by cases args; simp_all
  obtain ⟨rfl, rfl⟩ := trodVars_none hV
  have k0 := h0
  have lt0 : ∀ x ∈ p0, x.block < W.heap.size := by obtain ⟨m, hm⟩ := k0; exact DataW.trod_lt m _ _ _ hm
  clear hA0 hval0 hsz0
  have done : ∀ W', Below W.heap.size W W' → ∃ r, (Ending.returned (.bool true)) = .returned r ∧ Rows.wordsIsSpec.post enc Try.prog Try.f9 false true false false W #[v0] r W' := fun W' bel =>
    ⟨_, rfl, _, _, _, [], _, [], hW', trodAll_mk1 (shut_bool Try.underlying4 _), (trodAll_cons_mk (Below.trod laidOut (by kernel_rfl) (of_decide_eq_true (by kernel_rfl)) k0 bel lt0) trodAll_mk0), rfl, bel.frame _, fun h => by cases h⟩
  obtain ⟨z0, z1, z2, z3, z, A0, A1, A2, A3, c0, c1, c2, c3, X0, X1, X2, X3, rfl, ⟨l0, C0, u0, s0⟩, ⟨l1, C1, u1, s1⟩, ⟨l2, C2, u2, s2⟩, ⟨l3, C3, u3, s3⟩⟩ := OpenAsked.open_asked hsz (j := 0) rfl rfl (hval 0 62 v0 rfl rfl) h0
  refine (IsLaw.law z0 z1 z2 z3 z A0 A1 A2 A3 c0 c1 c2 c3 X0 X1 X2 X3 W C0 l0 s0 u0 C1 l1 s1 u1 C2 l2 s2 u2 C3 l3 s3 u3).mono fun e W' ⟨he, bel⟩ => ?_
  subst he
  exact done W' bel
theorem over : Rows.wordsIsRow.holds Try.pinned (OpenSpec.ofChange Rows.wordsIsSpec) :=
  OpenClaim.holds_of_wide 9 Try.f9 rfl rfl rfl rfl rfl rfl rfl ⟨rfl, rfl, rfl, rfl, rfl⟩ rfl rfl rfl rfl rfl (by kernel_rfl) Try.func9 (by kernel_rfl)
    (of_decide_eq_true (by kernel_rfl)) (by unfold Func.isWrapper; first | (rw [if_pos (by decide +kernel)]; kernel_rfl) | (rw [if_neg (by decide +kernel)]; exact ⟨rfl, rfl⟩))
    (fun os started H enc _ => lifted os started H enc)
theorem proved : Rows.WordsIsSaid := over
end Go.Proofs.Ytlghmadoogblcaa.wordsIs
namespace Go.Proofs.Ytlghmadoogblcaa
theorem wordsIs_holds : Rows.WordsIsSaid := wordsIs.proved
#print axioms wordsIs_holds
end Go.Proofs.Ytlghmadoogblcaa
end
