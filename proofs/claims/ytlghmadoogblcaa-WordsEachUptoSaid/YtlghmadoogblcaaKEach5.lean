/- The row of WordsEach. -/
import Derived.Test.YtlghmadoogblcaaKEach4
section
namespace Go.Proofs.Ytlghmadoogblcaa.RefIs
open Go Go.RowKit Go.Proofs.YtlghmadoogblcaaW.PrintWords Go.Proofs.YtlghmadoogblcaaW.PrintLast Go.Proofs.YtlghmadoogblcaaW.PrintMore Go.Proofs.Ytlghmadoogblcaa.PW Go.Proofs.Ytlghmadoogblcaa.Book Go.Proofs.Ytlghmadoogblcaa.Lent Go.Proofs.Ytlghmadoogblcaa.Pile Go.Proofs.Ytlghmadoogblcaa.Rows4 Go.Proofs.Ytlghmadoogblcaa.IsWalk
set_option linter.unusedVariables false
set_option linter.unusedSimpArgs false
def says (b0 b1 b2 b3 : Nat → Bool) (i : Nat) : Int := (if b0 i then 1 else 0) + (if b1 i then 2 else 0) + (if b2 i then 4 else 0) + (if b3 i then 8 else 0)
theorem c4i {W : World} {b L : Nat} {m : Int} {t : TypeId} {A0 A1 A2 A3 : Option Addr} {X0 X1 X2 X3 : List Int} {c0 c1 c2 c3 : Nat} (x0 : X0.length = L) (x1 : X1.length = L) (x2 : X2.length = L) (x3 : X3.length = L) (hb : W.heap[b]? = some (.cells #[.int .i64 m, .slice A0 L c0, .int .i64 m, .slice A1 L c1, .int .i64 m, .slice A2 L c2, .int .i64 m, .slice A3 L c3] t (0, 0)))
    (h0 : Kd.C (Kd.int .u64) W A0 X0.length X0) (l0 : X0.length ≤ c0) (h1 : Kd.C (Kd.int .u64) W A1 X1.length X1) (l1 : X1.length ≤ c1) (h2 : Kd.C (Kd.int .u64) W A2 X2.length X2) (l2 : X2.length ≤ c2) (h3 : Kd.C (Kd.int .u64) W A3 X3.length X3) (l3 : X3.length ≤ c3) : Kd.C k31 W (some ⟨b, 0, none⟩) 4 [⟨m, X0⟩, ⟨m, X1⟩, ⟨m, X2⟩, ⟨m, X3⟩] :=
  c4 (by rw [x0, x1, x2, x3]; exact hb) h0 l0 h1 l1 h2 l2 h3 l3
theorem leaf {w W : World} {b r g m c : Nat} {n y s : Int} {cs : Array Value} {b0 b1 b2 b3 : Nat → Bool} (P : I0 w W b r cs)
    (HV : W.ownsRow w.heap.size 4 1 (.slice (some ⟨g, 0, none⟩) m c) m (bools (RefPlain.doneTo m y.toNat (fun i => decide (says b0 b1 b2 b3 i = n)) (fun _ => false)))) (h0 : 0 ≤ y) (hy : y.toNat < m) (s' : Int) (hs' : s = s') (hs : says b0 b1 b2 b3 y.toNat = s) :
    Aside0 (I0 w (W.setCell ⟨g, y.toNat, none⟩ (.bool (s' == n))) b r cs) ∧ Aside0 ((W.setCell ⟨g, y.toNat, none⟩ (.bool (s' == n))).ownsRow w.heap.size 4 1 (.slice (some ⟨g, 0, none⟩) m c) m (bools (RefPlain.doneTo m (y + 1).toNat (fun i => decide (says b0 b1 b2 b3 i = n)) (fun _ => false)))) := by
  subst hs'
  obtain ⟨hw, _, hc⟩ := own_block HV g rfl
  have h2 := own_put_bool rfl HV y.toNat (s == n)
  have e3 : (s == n) = (fun i => decide (says b0 b1 b2 b3 i = n)) y.toNat := by simp only [hs]; rfl
  have e4 : (RefPlain.doneTo m y.toNat (fun i => decide (says b0 b1 b2 b3 i = n)) (fun _ => false)).set y.toNat (s == n) = RefPlain.doneTo m (y.toNat + 1) (fun i => decide (says b0 b1 b2 b3 i = n)) (fun _ => false) := by rw [e3]; exact RefPlain.doneTo_set _ _ hy
  rw [e4] at h2
  have far : ∀ k, k ≠ g → (W.setCell ⟨g, y.toNat, none⟩ (.bool (s == n))).heap[k]? = W.heap[k]? := fun k hk => Below.heap_setCell _ ⟨g, y.toNat, none⟩ _ _ hk
  have ne : ∀ (k : Nat) (cs : Array Value) (t : TypeId), W.heap[k]? = some (.cells cs t (0, 0)) → t ≠ 4 → k ≠ g := by
    rintro k cs t hk ht rfl
    rw [hk] at hc
    injection hc with hc
    injection hc with _ hc
    exact ht hc
  refine ⟨⟨⟨below_set P.be hw, (far _ (ne _ _ _ P.bx (by decide))).trans P.bx, (far _ (ne _ _ _ P.rx (by decide))).trans P.rx, P.ge, P.re, P.ne⟩⟩, ⟨?_⟩⟩
  rw [show (y + 1).toNat = y.toNat + 1 by omega]
  exact h2
set_option maxHeartbeats 8000000 in
set_option maxRecDepth 100000 in
theorem is_ok (k m : Nat) (n : Int) (A0 A1 A2 A3 : Option Addr) (X0 X1 X2 X3 V : List Int) (c0 c1 c2 c3 L : Nat) (b0 b1 b2 b3 : Nat → Bool) (w : World) (hC0 : Kd.C (Kd.int .u64) w A0 X0.length X0) (hl0 : X0.length ≤ c0) (hC1 : Kd.C (Kd.int .u64) w A1 X1.length X1) (hl1 : X1.length ≤ c1) (hC2 : Kd.C (Kd.int .u64) w A2 X2.length X2) (hl2 : X2.length ≤ c2) (hC3 : Kd.C (Kd.int .u64) w A3 X3.length X3) (hl3 : X3.length ≤ c3) (hf : PF.vivariumref02_fits.f k [⟨(m : Int), X0⟩, ⟨(m : Int), X1⟩, ⟨(m : Int), X2⟩, ⟨(m : Int), X3⟩] = some 0) (h0 : 0 ≤ n) (h15 : n ≤ 15) (hm : m ≤ 65538)
    (hx0 : X0.length = L) (hx1 : X1.length = L) (hx2 : X2.length = L) (hx3 : X3.length = L) (hb0 : ∀ i : Nat, i < m → PB.vivariumref02_bit.f (m : Int) X0 i = some (b0 i)) (hb1 : ∀ i : Nat, i < m → PB.vivariumref02_bit.f (m : Int) X1 i = some (b1 i)) (hb2 : ∀ i : Nat, i < m → PB.vivariumref02_bit.f (m : Int) X2 i = some (b2 i)) (hb3 : ∀ i : Nat, i < m → PB.vivariumref02_bit.f (m : Int) X3 i = some (b3 i)) (hV : PB.vivariumref02_Row.f k (RefPlain.doneTo m m (fun i => decide (says b0 b1 b2 b3 i = n)) (fun _ => false)) = some ((m : Int), V)) :
    Calls Try.prog 35 #[.agg #[.int .i64 (m : Int), .slice A0 L c0, .int .i64 (m : Int), .slice A1 L c1, .int .i64 (m : Int), .slice A2 L c2, .int .i64 (m : Int), .slice A3 L c3], .int .i64 n] w fun e w' => ∃ v, e = .returned (.tuple #[.agg #[.int .i64 (m : Int), v], .int .i64 0]) ∧ w'.ownsRow w.heap.size 22 1 v V.length (nums .u64 V) ∧ Below w.heap.size w w' := by
  have HC0 := Aside0.mk hC0; have HL0 := Aside0.mk hl0; have HC1 := Aside0.mk hC1; have HL1 := Aside0.mk hl1; have HC2 := Aside0.mk hC2; have HL2 := Aside0.mk hl2; have HC3 := Aside0.mk hC3; have HL3 := Aside0.mk hl3
  have HF := Aside0.mk hf; have HVV := Aside0.mk hV
  have HX0 := Aside0.mk hx0; have HB0 := Aside0.mk hb0; have HX1 := Aside0.mk hx1; have HB1 := Aside0.mk hb1; have HX2 := Aside0.mk hx2; have HB2 := Aside0.mk hb2; have HX3 := Aside0.mk hx3; have HB3 := Aside0.mk hb3
  have hu := Try.underlying31
  have hu4 := Try.underlying54
  clear hC0 hl0 hC1 hl1 hC2 hl2 hC3 hl3 hf hV hx0 hx1 hx2 hx3 hb0 hb1 hb2 hb3
  go_enter Try.func35, Try.ntmps35
  go_wp2_with (first
    | ((with_reducible refine gate_dst (N := 2) rfl ?_); refine box_event ?hg2 (N := 2) ?hd2 (cs := #[.int .i64 (m : Int), .slice A0 L c0, .int .i64 (m : Int), .slice A1 L c1, .int .i64 (m : Int), .slice A2 L c2, .int .i64 (m : Int), .slice A3 L c3]) (t := 54) ?hr2 ?_; (case hd2 => rfl); (case hg2 => rfl); (case hr2 => first | (go_simp; done) | (go_simp; rfl)); intro b gb W1 x1 hb1; have hge : w.heap.size ≤ b := (by omega); clear gb)
    | ((with_reducible refine gate_dst (N := 4) rfl ?_); refine box_event ?hg4 (N := 4) ?hd4 (cs := #[.int .i64 0, .slice none 0 0]) (t := 31) ?hr4 ?_; (case hd4 => rfl); (case hg4 => rfl); (case hr4 => first | (go_simp; done) | (go_simp; rfl)); intro r gr W2 x2 hb2; have P2 : I0 w W2 b r #[.int .i64 (m : Int), .slice A0 L c0, .int .i64 (m : Int), .slice A1 L c1, .int .i64 (m : Int), .slice A2 L c2, .int .i64 (m : Int), .slice A3 L c3] := ⟨chain_ hb1 hb2, blk_below x1 hb2, x2, hge, (by have := hb1.size; omega), (by have := blk_lt x1; omega)⟩; have P := Aside0.mk P2; clear P2 x1 x2 hb1 hb2 gr; have x_0 : (W2).cell? ⟨b, 0, none⟩ = some (.int .i64 (m : Int)) := (blk_cell P.out.bx 0).trans rfl; have x_1 : (W2).cell? ⟨b, 1, none⟩ = some (.slice A0 L c0) := (blk_cell P.out.bx 1).trans rfl; have x_2 : (W2).cell? ⟨b, 2, none⟩ = some (.int .i64 (m : Int)) := (blk_cell P.out.bx 2).trans rfl; have x_3 : (W2).cell? ⟨b, 3, none⟩ = some (.slice A1 L c1) := (blk_cell P.out.bx 3).trans rfl; have x_4 : (W2).cell? ⟨b, 4, none⟩ = some (.int .i64 (m : Int)) := (blk_cell P.out.bx 4).trans rfl; have x_5 : (W2).cell? ⟨b, 5, none⟩ = some (.slice A2 L c2) := (blk_cell P.out.bx 5).trans rfl; have x_6 : (W2).cell? ⟨b, 6, none⟩ = some (.int .i64 (m : Int)) := (blk_cell P.out.bx 6).trans rfl; have x_7 : (W2).cell? ⟨b, 7, none⟩ = some (.slice A3 L c3) := (blk_cell P.out.bx 7).trans rfl)
    | (go_at_call 54; have P1 := P.out.on (below_alloc (Below.refl _ _) (.cells #[.int .i64 (m : Int), .slice A0 L c0, .int .i64 (m : Int), .slice A1 L c1, .int .i64 (m : Int), .slice A2 L c2, .int .i64 (m : Int), .slice A3 L c3] 31)); have h_ : Calls Try.prog 54 #[.slice (some ⟨W2.heap.size, 0, none⟩) 4 4] (W2.alloc (.cells #[.int .i64 (m : Int), .slice A0 L c0, .int .i64 (m : Int), .slice A1 L c1, .int .i64 (m : Int), .slice A2 L c2, .int .i64 (m : Int), .slice A3 L c3] 31)) (fun e w' => e = .returned (.int .i64 0) ∧ Below (W2.alloc (.cells #[.int .i64 (m : Int), .slice A0 L c0, .int .i64 (m : Int), .slice A1 L c1, .int .i64 (m : Int), .slice A2 L c2, .int .i64 (m : Int), .slice A3 L c3] 31)).heap.size (W2.alloc (.cells #[.int .i64 (m : Int), .slice A0 L c0, .int .i64 (m : Int), .slice A1 L c1, .int .i64 (m : Int), .slice A2 L c2, .int .i64 (m : Int), .slice A3 L c3] 31)) w') := PF.vivariumref02_fits.calls k (some ⟨W2.heap.size, 0, none⟩) 4 [⟨(m : Int), X0⟩, ⟨(m : Int), X1⟩, ⟨(m : Int), X2⟩, ⟨(m : Int), X3⟩] 0 (W2.alloc (.cells #[.int .i64 (m : Int), .slice A0 L c0, .int .i64 (m : Int), .slice A1 L c1, .int .i64 (m : Int), .slice A2 L c2, .int .i64 (m : Int), .slice A3 L c3] 31)) (c4i HX0.out HX1.out HX2.out HX3.out (blk_new W2 _) (Kd.C_below HC0.out P1.be) HL0.out (Kd.C_below HC1.out P1.be) HL1.out (Kd.C_below HC2.out P1.be) HL2.out (Kd.C_below HC3.out P1.be) HL3.out) (Nat.le_refl 4) HF.out; (with_reducible refine h_.mono ?_); clear h_; rintro er_ v1 ⟨rfl, hb⟩; have P2 := P1.on hb; clear hb P P1; have P := Aside0.mk P2; clear P2 x_0 x_1 x_2 x_3 x_4 x_5 x_6 x_7; have x0_ : v1.cell? ⟨b, 0, none⟩ = some (.int .i64 (m : Int)) := (blk_cell P.out.bx 0).trans rfl)
    | ((with_reducible refine gate_dst (N := 36) rfl ?_); refine Kd.R_make Kd.bool _ 4 rfl (N := 36) rfl 35 _ _ rfl (m : Int) rfl rfl Try.underlying35 (.bool false) 1 (by kernel_rfl) rfl (by decide) (by omega) false (ok := fun _ => True) (okp := fun _ => True) rfl (fun _ hk => hk) trivial (by omega) (by omega) (Below.refl _ _) (Nat.le_refl _) ?_; intro v_ v2 hR hb hg_ hn_; clear hg_ hn_ x0_; rw [Int.toNat_natCast] at hR; have ho_ := own_less (own_of_R_bit hR) P.out.be.size; obtain ⟨A_v, c_v, e_, -, -⟩ := Kd.R_reads hR; rw [List.length_replicate] at e_; subst e_; rw [List.length_replicate, ← RefPlain.doneTo_zero m (fun i => decide (says b0 b1 b2 b3 i = n))] at ho_; have HV := Aside0.mk ho_; have P2 := P.out.on hb; clear hb hR ho_ P; have P := Aside0.mk P2; clear P2))
  go_loopg [8] m (fun q_ s8 wr => ∃ y : Int, s8 = .int .i64 y ∧ Aside0 (0 ≤ y ∧ y ≤ m ∧ (q_ : Int) = m - y) ∧ Aside0 (I0 w wr b r #[.int .i64 (m : Int), .slice A0 L c0, .int .i64 (m : Int), .slice A1 L c1, .int .i64 (m : Int), .slice A2 L c2, .int .i64 (m : Int), .slice A3 L c3]) ∧ Aside0 (wr.ownsRow w.heap.size 4 1 (.slice A_v m c_v) m (bools (RefPlain.doneTo m y.toNat (fun i => decide (says b0 b1 b2 b3 i = n)) (fun _ => false)))))
  case atStart => exact ⟨0, rfl, ⟨by omega, by omega, by omega⟩, P, HV⟩
  case round =>
    clear P HV
    obtain ⟨y, rfl, HY, P, HV⟩ := hrel
    by_cases qy : y < m
    · have py : 0 ≤ y := HY.out.1
      go_wp2
      refine wp_loop_rounds 5 ?_
      obtain ⟨v0b, hv0⟩ : ∃ q, b0 y.toNat = q := ⟨_, rfl⟩
      have HB0w := Aside0.mk (show PB.vivariumref02_bit.f (m : Int) X0 y = some v0b by have h_ := HB0.out y.toNat (by omega); rw [Int.toNat_of_nonneg py, hv0] at h_; exact h_)
      have HB0v := Aside0.mk hv0
      clear hv0
      cases v0b with
      | true =>
        rw [rounds_succ]
        have x_0 : (wr).cell? ⟨b, 0, none⟩ = some (.int .i64 (m : Int)) := (blk_cell P.out.bx 0).trans rfl
        have x_1 : (wr).cell? ⟨b, 1, none⟩ = some (.slice A0 L c0) := (blk_cell P.out.bx 1).trans rfl
        have x_2 : (wr).cell? ⟨b, 2, none⟩ = some (.int .i64 (m : Int)) := (blk_cell P.out.bx 2).trans rfl
        have x_3 : (wr).cell? ⟨b, 3, none⟩ = some (.slice A1 L c1) := (blk_cell P.out.bx 3).trans rfl
        have x_4 : (wr).cell? ⟨b, 4, none⟩ = some (.int .i64 (m : Int)) := (blk_cell P.out.bx 4).trans rfl
        have x_5 : (wr).cell? ⟨b, 5, none⟩ = some (.slice A2 L c2) := (blk_cell P.out.bx 5).trans rfl
        have x_6 : (wr).cell? ⟨b, 6, none⟩ = some (.int .i64 (m : Int)) := (blk_cell P.out.bx 6).trans rfl
        have x_7 : (wr).cell? ⟨b, 7, none⟩ = some (.slice A3 L c3) := (blk_cell P.out.bx 7).trans rfl
        go_wp2_with (go_at_call 52; have P1 := P.out; have h_ := PB.vivariumref02_bit.calls (m : Int) A0 c0 X0 y true wr (Kd.C_below HC0.out P1.be) HL0.out HB0w.out; rw [HX0.out] at h_; (with_reducible refine h_.mono ?_); clear h_; rintro er_ z0 ⟨rfl, hb⟩; have P2 := P1.on hb; have HV2 := Aside0.mk (pw_own_below HV.out hb); clear hb P P1 HV x_0 x_1 x_2 x_3 x_4 x_5 x_6 x_7; have P := Aside0.mk P2; have HV := HV2; clear P2 HV2)
        obtain ⟨v1b, hv1⟩ : ∃ q, b1 y.toNat = q := ⟨_, rfl⟩
        have HB1w := Aside0.mk (show PB.vivariumref02_bit.f (m : Int) X1 y = some v1b by have h_ := HB1.out y.toNat (by omega); rw [Int.toNat_of_nonneg py, hv1] at h_; exact h_)
        have HB1v := Aside0.mk hv1
        clear hv1
        cases v1b with
        | true =>
          rw [rounds_succ]
          have x_0 : (z0).cell? ⟨b, 0, none⟩ = some (.int .i64 (m : Int)) := (blk_cell P.out.bx 0).trans rfl
          have x_1 : (z0).cell? ⟨b, 1, none⟩ = some (.slice A0 L c0) := (blk_cell P.out.bx 1).trans rfl
          have x_2 : (z0).cell? ⟨b, 2, none⟩ = some (.int .i64 (m : Int)) := (blk_cell P.out.bx 2).trans rfl
          have x_3 : (z0).cell? ⟨b, 3, none⟩ = some (.slice A1 L c1) := (blk_cell P.out.bx 3).trans rfl
          have x_4 : (z0).cell? ⟨b, 4, none⟩ = some (.int .i64 (m : Int)) := (blk_cell P.out.bx 4).trans rfl
          have x_5 : (z0).cell? ⟨b, 5, none⟩ = some (.slice A2 L c2) := (blk_cell P.out.bx 5).trans rfl
          have x_6 : (z0).cell? ⟨b, 6, none⟩ = some (.int .i64 (m : Int)) := (blk_cell P.out.bx 6).trans rfl
          have x_7 : (z0).cell? ⟨b, 7, none⟩ = some (.slice A3 L c3) := (blk_cell P.out.bx 7).trans rfl
          go_wp2_with (go_at_call 52; have P1 := P.out; have h_ := PB.vivariumref02_bit.calls (m : Int) A1 c1 X1 y true z0 (Kd.C_below HC1.out P1.be) HL1.out HB1w.out; rw [HX1.out] at h_; (with_reducible refine h_.mono ?_); clear h_; rintro er_ z1 ⟨rfl, hb⟩; have P2 := P1.on hb; have HV2 := Aside0.mk (pw_own_below HV.out hb); clear hb P P1 HV x_0 x_1 x_2 x_3 x_4 x_5 x_6 x_7; have P := Aside0.mk P2; have HV := HV2; clear P2 HV2)
          obtain ⟨v2b, hv2⟩ : ∃ q, b2 y.toNat = q := ⟨_, rfl⟩
          have HB2w := Aside0.mk (show PB.vivariumref02_bit.f (m : Int) X2 y = some v2b by have h_ := HB2.out y.toNat (by omega); rw [Int.toNat_of_nonneg py, hv2] at h_; exact h_)
          have HB2v := Aside0.mk hv2
          clear hv2
          cases v2b with
          | true =>
            rw [rounds_succ]
            have x_0 : (z1).cell? ⟨b, 0, none⟩ = some (.int .i64 (m : Int)) := (blk_cell P.out.bx 0).trans rfl
            have x_1 : (z1).cell? ⟨b, 1, none⟩ = some (.slice A0 L c0) := (blk_cell P.out.bx 1).trans rfl
            have x_2 : (z1).cell? ⟨b, 2, none⟩ = some (.int .i64 (m : Int)) := (blk_cell P.out.bx 2).trans rfl
            have x_3 : (z1).cell? ⟨b, 3, none⟩ = some (.slice A1 L c1) := (blk_cell P.out.bx 3).trans rfl
            have x_4 : (z1).cell? ⟨b, 4, none⟩ = some (.int .i64 (m : Int)) := (blk_cell P.out.bx 4).trans rfl
            have x_5 : (z1).cell? ⟨b, 5, none⟩ = some (.slice A2 L c2) := (blk_cell P.out.bx 5).trans rfl
            have x_6 : (z1).cell? ⟨b, 6, none⟩ = some (.int .i64 (m : Int)) := (blk_cell P.out.bx 6).trans rfl
            have x_7 : (z1).cell? ⟨b, 7, none⟩ = some (.slice A3 L c3) := (blk_cell P.out.bx 7).trans rfl
            go_wp2_with (go_at_call 52; have P1 := P.out; have h_ := PB.vivariumref02_bit.calls (m : Int) A2 c2 X2 y true z1 (Kd.C_below HC2.out P1.be) HL2.out HB2w.out; rw [HX2.out] at h_; (with_reducible refine h_.mono ?_); clear h_; rintro er_ z2 ⟨rfl, hb⟩; have P2 := P1.on hb; have HV2 := Aside0.mk (pw_own_below HV.out hb); clear hb P P1 HV x_0 x_1 x_2 x_3 x_4 x_5 x_6 x_7; have P := Aside0.mk P2; have HV := HV2; clear P2 HV2)
            obtain ⟨v3b, hv3⟩ : ∃ q, b3 y.toNat = q := ⟨_, rfl⟩
            have HB3w := Aside0.mk (show PB.vivariumref02_bit.f (m : Int) X3 y = some v3b by have h_ := HB3.out y.toNat (by omega); rw [Int.toNat_of_nonneg py, hv3] at h_; exact h_)
            have HB3v := Aside0.mk hv3
            clear hv3
            cases v3b with
            | true =>
              rw [rounds_succ]
              have x_0 : (z2).cell? ⟨b, 0, none⟩ = some (.int .i64 (m : Int)) := (blk_cell P.out.bx 0).trans rfl
              have x_1 : (z2).cell? ⟨b, 1, none⟩ = some (.slice A0 L c0) := (blk_cell P.out.bx 1).trans rfl
              have x_2 : (z2).cell? ⟨b, 2, none⟩ = some (.int .i64 (m : Int)) := (blk_cell P.out.bx 2).trans rfl
              have x_3 : (z2).cell? ⟨b, 3, none⟩ = some (.slice A1 L c1) := (blk_cell P.out.bx 3).trans rfl
              have x_4 : (z2).cell? ⟨b, 4, none⟩ = some (.int .i64 (m : Int)) := (blk_cell P.out.bx 4).trans rfl
              have x_5 : (z2).cell? ⟨b, 5, none⟩ = some (.slice A2 L c2) := (blk_cell P.out.bx 5).trans rfl
              have x_6 : (z2).cell? ⟨b, 6, none⟩ = some (.int .i64 (m : Int)) := (blk_cell P.out.bx 6).trans rfl
              have x_7 : (z2).cell? ⟨b, 7, none⟩ = some (.slice A3 L c3) := (blk_cell P.out.bx 7).trans rfl
              go_wp2_with (go_at_call 52; have P1 := P.out; have h_ := PB.vivariumref02_bit.calls (m : Int) A3 c3 X3 y true z2 (Kd.C_below HC3.out P1.be) HL3.out HB3w.out; rw [HX3.out] at h_; (with_reducible refine h_.mono ?_); clear h_; rintro er_ z3 ⟨rfl, hb⟩; have P2 := P1.on hb; have HV2 := Aside0.mk (pw_own_below HV.out hb); clear hb P P1 HV x_0 x_1 x_2 x_3 x_4 x_5 x_6 x_7; have P := Aside0.mk P2; have HV := HV2; clear P2 HV2)
              rw [rounds_succ]
              obtain ⟨g, e_⟩ := own_some' HV.out (by omega)
              subst e_
              have bc_ : z3.cell? ⟨g, y.toNat, none⟩ = some (.bool false) := own_cell HV.out y.toNat _ (by rw [bools, List.getElem?_map, RefPlain.doneTo_get _ _ (by omega)]; simp)
              have bf_ := own_free HV.out y.toNat
              go_wp2
              go_roundg (m - (y + 1).toNat)
              case measure => go_light; have := HY.out; omega
              case rel =>
                go_light
                refine ⟨y + 1, by have hw : wrap64 (y + 1) = y + 1 := (by unfold wrap64; omega); first | rfl | (rw [hw]; done) | (simp [hw]; done), ⟨by omega, by omega, by omega⟩, ?_⟩
                exact leaf P.out HV.out (by omega) (by omega) 15 rfl (by unfold says; rw [HB0v.out, HB1v.out, HB2v.out, HB3v.out]; rfl)
            | false =>
              rw [rounds_succ]
              have x_0 : (z2).cell? ⟨b, 0, none⟩ = some (.int .i64 (m : Int)) := (blk_cell P.out.bx 0).trans rfl
              have x_1 : (z2).cell? ⟨b, 1, none⟩ = some (.slice A0 L c0) := (blk_cell P.out.bx 1).trans rfl
              have x_2 : (z2).cell? ⟨b, 2, none⟩ = some (.int .i64 (m : Int)) := (blk_cell P.out.bx 2).trans rfl
              have x_3 : (z2).cell? ⟨b, 3, none⟩ = some (.slice A1 L c1) := (blk_cell P.out.bx 3).trans rfl
              have x_4 : (z2).cell? ⟨b, 4, none⟩ = some (.int .i64 (m : Int)) := (blk_cell P.out.bx 4).trans rfl
              have x_5 : (z2).cell? ⟨b, 5, none⟩ = some (.slice A2 L c2) := (blk_cell P.out.bx 5).trans rfl
              have x_6 : (z2).cell? ⟨b, 6, none⟩ = some (.int .i64 (m : Int)) := (blk_cell P.out.bx 6).trans rfl
              have x_7 : (z2).cell? ⟨b, 7, none⟩ = some (.slice A3 L c3) := (blk_cell P.out.bx 7).trans rfl
              go_wp2_with (go_at_call 52; have P1 := P.out; have h_ := PB.vivariumref02_bit.calls (m : Int) A3 c3 X3 y false z2 (Kd.C_below HC3.out P1.be) HL3.out HB3w.out; rw [HX3.out] at h_; (with_reducible refine h_.mono ?_); clear h_; rintro er_ z3 ⟨rfl, hb⟩; have P2 := P1.on hb; have HV2 := Aside0.mk (pw_own_below HV.out hb); clear hb P P1 HV x_0 x_1 x_2 x_3 x_4 x_5 x_6 x_7; have P := Aside0.mk P2; have HV := HV2; clear P2 HV2)
              rw [rounds_succ]
              obtain ⟨g, e_⟩ := own_some' HV.out (by omega)
              subst e_
              have bc_ : z3.cell? ⟨g, y.toNat, none⟩ = some (.bool false) := own_cell HV.out y.toNat _ (by rw [bools, List.getElem?_map, RefPlain.doneTo_get _ _ (by omega)]; simp)
              have bf_ := own_free HV.out y.toNat
              go_wp2
              go_roundg (m - (y + 1).toNat)
              case measure => go_light; have := HY.out; omega
              case rel =>
                go_light
                refine ⟨y + 1, by have hw : wrap64 (y + 1) = y + 1 := (by unfold wrap64; omega); first | rfl | (rw [hw]; done) | (simp [hw]; done), ⟨by omega, by omega, by omega⟩, ?_⟩
                exact leaf P.out HV.out (by omega) (by omega) 7 rfl (by unfold says; rw [HB0v.out, HB1v.out, HB2v.out, HB3v.out]; rfl)
          | false =>
            rw [rounds_succ]
            have x_0 : (z1).cell? ⟨b, 0, none⟩ = some (.int .i64 (m : Int)) := (blk_cell P.out.bx 0).trans rfl
            have x_1 : (z1).cell? ⟨b, 1, none⟩ = some (.slice A0 L c0) := (blk_cell P.out.bx 1).trans rfl
            have x_2 : (z1).cell? ⟨b, 2, none⟩ = some (.int .i64 (m : Int)) := (blk_cell P.out.bx 2).trans rfl
            have x_3 : (z1).cell? ⟨b, 3, none⟩ = some (.slice A1 L c1) := (blk_cell P.out.bx 3).trans rfl
            have x_4 : (z1).cell? ⟨b, 4, none⟩ = some (.int .i64 (m : Int)) := (blk_cell P.out.bx 4).trans rfl
            have x_5 : (z1).cell? ⟨b, 5, none⟩ = some (.slice A2 L c2) := (blk_cell P.out.bx 5).trans rfl
            have x_6 : (z1).cell? ⟨b, 6, none⟩ = some (.int .i64 (m : Int)) := (blk_cell P.out.bx 6).trans rfl
            have x_7 : (z1).cell? ⟨b, 7, none⟩ = some (.slice A3 L c3) := (blk_cell P.out.bx 7).trans rfl
            go_wp2_with (go_at_call 52; have P1 := P.out; have h_ := PB.vivariumref02_bit.calls (m : Int) A2 c2 X2 y false z1 (Kd.C_below HC2.out P1.be) HL2.out HB2w.out; rw [HX2.out] at h_; (with_reducible refine h_.mono ?_); clear h_; rintro er_ z2 ⟨rfl, hb⟩; have P2 := P1.on hb; have HV2 := Aside0.mk (pw_own_below HV.out hb); clear hb P P1 HV x_0 x_1 x_2 x_3 x_4 x_5 x_6 x_7; have P := Aside0.mk P2; have HV := HV2; clear P2 HV2)
            obtain ⟨v3b, hv3⟩ : ∃ q, b3 y.toNat = q := ⟨_, rfl⟩
            have HB3w := Aside0.mk (show PB.vivariumref02_bit.f (m : Int) X3 y = some v3b by have h_ := HB3.out y.toNat (by omega); rw [Int.toNat_of_nonneg py, hv3] at h_; exact h_)
            have HB3v := Aside0.mk hv3
            clear hv3
            cases v3b with
            | true =>
              rw [rounds_succ]
              have x_0 : (z2).cell? ⟨b, 0, none⟩ = some (.int .i64 (m : Int)) := (blk_cell P.out.bx 0).trans rfl
              have x_1 : (z2).cell? ⟨b, 1, none⟩ = some (.slice A0 L c0) := (blk_cell P.out.bx 1).trans rfl
              have x_2 : (z2).cell? ⟨b, 2, none⟩ = some (.int .i64 (m : Int)) := (blk_cell P.out.bx 2).trans rfl
              have x_3 : (z2).cell? ⟨b, 3, none⟩ = some (.slice A1 L c1) := (blk_cell P.out.bx 3).trans rfl
              have x_4 : (z2).cell? ⟨b, 4, none⟩ = some (.int .i64 (m : Int)) := (blk_cell P.out.bx 4).trans rfl
              have x_5 : (z2).cell? ⟨b, 5, none⟩ = some (.slice A2 L c2) := (blk_cell P.out.bx 5).trans rfl
              have x_6 : (z2).cell? ⟨b, 6, none⟩ = some (.int .i64 (m : Int)) := (blk_cell P.out.bx 6).trans rfl
              have x_7 : (z2).cell? ⟨b, 7, none⟩ = some (.slice A3 L c3) := (blk_cell P.out.bx 7).trans rfl
              go_wp2_with (go_at_call 52; have P1 := P.out; have h_ := PB.vivariumref02_bit.calls (m : Int) A3 c3 X3 y true z2 (Kd.C_below HC3.out P1.be) HL3.out HB3w.out; rw [HX3.out] at h_; (with_reducible refine h_.mono ?_); clear h_; rintro er_ z3 ⟨rfl, hb⟩; have P2 := P1.on hb; have HV2 := Aside0.mk (pw_own_below HV.out hb); clear hb P P1 HV x_0 x_1 x_2 x_3 x_4 x_5 x_6 x_7; have P := Aside0.mk P2; have HV := HV2; clear P2 HV2)
              rw [rounds_succ]
              obtain ⟨g, e_⟩ := own_some' HV.out (by omega)
              subst e_
              have bc_ : z3.cell? ⟨g, y.toNat, none⟩ = some (.bool false) := own_cell HV.out y.toNat _ (by rw [bools, List.getElem?_map, RefPlain.doneTo_get _ _ (by omega)]; simp)
              have bf_ := own_free HV.out y.toNat
              go_wp2
              go_roundg (m - (y + 1).toNat)
              case measure => go_light; have := HY.out; omega
              case rel =>
                go_light
                refine ⟨y + 1, by have hw : wrap64 (y + 1) = y + 1 := (by unfold wrap64; omega); first | rfl | (rw [hw]; done) | (simp [hw]; done), ⟨by omega, by omega, by omega⟩, ?_⟩
                exact leaf P.out HV.out (by omega) (by omega) 11 rfl (by unfold says; rw [HB0v.out, HB1v.out, HB2v.out, HB3v.out]; rfl)
            | false =>
              rw [rounds_succ]
              have x_0 : (z2).cell? ⟨b, 0, none⟩ = some (.int .i64 (m : Int)) := (blk_cell P.out.bx 0).trans rfl
              have x_1 : (z2).cell? ⟨b, 1, none⟩ = some (.slice A0 L c0) := (blk_cell P.out.bx 1).trans rfl
              have x_2 : (z2).cell? ⟨b, 2, none⟩ = some (.int .i64 (m : Int)) := (blk_cell P.out.bx 2).trans rfl
              have x_3 : (z2).cell? ⟨b, 3, none⟩ = some (.slice A1 L c1) := (blk_cell P.out.bx 3).trans rfl
              have x_4 : (z2).cell? ⟨b, 4, none⟩ = some (.int .i64 (m : Int)) := (blk_cell P.out.bx 4).trans rfl
              have x_5 : (z2).cell? ⟨b, 5, none⟩ = some (.slice A2 L c2) := (blk_cell P.out.bx 5).trans rfl
              have x_6 : (z2).cell? ⟨b, 6, none⟩ = some (.int .i64 (m : Int)) := (blk_cell P.out.bx 6).trans rfl
              have x_7 : (z2).cell? ⟨b, 7, none⟩ = some (.slice A3 L c3) := (blk_cell P.out.bx 7).trans rfl
              go_wp2_with (go_at_call 52; have P1 := P.out; have h_ := PB.vivariumref02_bit.calls (m : Int) A3 c3 X3 y false z2 (Kd.C_below HC3.out P1.be) HL3.out HB3w.out; rw [HX3.out] at h_; (with_reducible refine h_.mono ?_); clear h_; rintro er_ z3 ⟨rfl, hb⟩; have P2 := P1.on hb; have HV2 := Aside0.mk (pw_own_below HV.out hb); clear hb P P1 HV x_0 x_1 x_2 x_3 x_4 x_5 x_6 x_7; have P := Aside0.mk P2; have HV := HV2; clear P2 HV2)
              rw [rounds_succ]
              obtain ⟨g, e_⟩ := own_some' HV.out (by omega)
              subst e_
              have bc_ : z3.cell? ⟨g, y.toNat, none⟩ = some (.bool false) := own_cell HV.out y.toNat _ (by rw [bools, List.getElem?_map, RefPlain.doneTo_get _ _ (by omega)]; simp)
              have bf_ := own_free HV.out y.toNat
              go_wp2
              go_roundg (m - (y + 1).toNat)
              case measure => go_light; have := HY.out; omega
              case rel =>
                go_light
                refine ⟨y + 1, by have hw : wrap64 (y + 1) = y + 1 := (by unfold wrap64; omega); first | rfl | (rw [hw]; done) | (simp [hw]; done), ⟨by omega, by omega, by omega⟩, ?_⟩
                exact leaf P.out HV.out (by omega) (by omega) 3 rfl (by unfold says; rw [HB0v.out, HB1v.out, HB2v.out, HB3v.out]; rfl)
        | false =>
          rw [rounds_succ]
          have x_0 : (z0).cell? ⟨b, 0, none⟩ = some (.int .i64 (m : Int)) := (blk_cell P.out.bx 0).trans rfl
          have x_1 : (z0).cell? ⟨b, 1, none⟩ = some (.slice A0 L c0) := (blk_cell P.out.bx 1).trans rfl
          have x_2 : (z0).cell? ⟨b, 2, none⟩ = some (.int .i64 (m : Int)) := (blk_cell P.out.bx 2).trans rfl
          have x_3 : (z0).cell? ⟨b, 3, none⟩ = some (.slice A1 L c1) := (blk_cell P.out.bx 3).trans rfl
          have x_4 : (z0).cell? ⟨b, 4, none⟩ = some (.int .i64 (m : Int)) := (blk_cell P.out.bx 4).trans rfl
          have x_5 : (z0).cell? ⟨b, 5, none⟩ = some (.slice A2 L c2) := (blk_cell P.out.bx 5).trans rfl
          have x_6 : (z0).cell? ⟨b, 6, none⟩ = some (.int .i64 (m : Int)) := (blk_cell P.out.bx 6).trans rfl
          have x_7 : (z0).cell? ⟨b, 7, none⟩ = some (.slice A3 L c3) := (blk_cell P.out.bx 7).trans rfl
          go_wp2_with (go_at_call 52; have P1 := P.out; have h_ := PB.vivariumref02_bit.calls (m : Int) A1 c1 X1 y false z0 (Kd.C_below HC1.out P1.be) HL1.out HB1w.out; rw [HX1.out] at h_; (with_reducible refine h_.mono ?_); clear h_; rintro er_ z1 ⟨rfl, hb⟩; have P2 := P1.on hb; have HV2 := Aside0.mk (pw_own_below HV.out hb); clear hb P P1 HV x_0 x_1 x_2 x_3 x_4 x_5 x_6 x_7; have P := Aside0.mk P2; have HV := HV2; clear P2 HV2)
          obtain ⟨v2b, hv2⟩ : ∃ q, b2 y.toNat = q := ⟨_, rfl⟩
          have HB2w := Aside0.mk (show PB.vivariumref02_bit.f (m : Int) X2 y = some v2b by have h_ := HB2.out y.toNat (by omega); rw [Int.toNat_of_nonneg py, hv2] at h_; exact h_)
          have HB2v := Aside0.mk hv2
          clear hv2
          cases v2b with
          | true =>
            rw [rounds_succ]
            have x_0 : (z1).cell? ⟨b, 0, none⟩ = some (.int .i64 (m : Int)) := (blk_cell P.out.bx 0).trans rfl
            have x_1 : (z1).cell? ⟨b, 1, none⟩ = some (.slice A0 L c0) := (blk_cell P.out.bx 1).trans rfl
            have x_2 : (z1).cell? ⟨b, 2, none⟩ = some (.int .i64 (m : Int)) := (blk_cell P.out.bx 2).trans rfl
            have x_3 : (z1).cell? ⟨b, 3, none⟩ = some (.slice A1 L c1) := (blk_cell P.out.bx 3).trans rfl
            have x_4 : (z1).cell? ⟨b, 4, none⟩ = some (.int .i64 (m : Int)) := (blk_cell P.out.bx 4).trans rfl
            have x_5 : (z1).cell? ⟨b, 5, none⟩ = some (.slice A2 L c2) := (blk_cell P.out.bx 5).trans rfl
            have x_6 : (z1).cell? ⟨b, 6, none⟩ = some (.int .i64 (m : Int)) := (blk_cell P.out.bx 6).trans rfl
            have x_7 : (z1).cell? ⟨b, 7, none⟩ = some (.slice A3 L c3) := (blk_cell P.out.bx 7).trans rfl
            go_wp2_with (go_at_call 52; have P1 := P.out; have h_ := PB.vivariumref02_bit.calls (m : Int) A2 c2 X2 y true z1 (Kd.C_below HC2.out P1.be) HL2.out HB2w.out; rw [HX2.out] at h_; (with_reducible refine h_.mono ?_); clear h_; rintro er_ z2 ⟨rfl, hb⟩; have P2 := P1.on hb; have HV2 := Aside0.mk (pw_own_below HV.out hb); clear hb P P1 HV x_0 x_1 x_2 x_3 x_4 x_5 x_6 x_7; have P := Aside0.mk P2; have HV := HV2; clear P2 HV2)
            obtain ⟨v3b, hv3⟩ : ∃ q, b3 y.toNat = q := ⟨_, rfl⟩
            have HB3w := Aside0.mk (show PB.vivariumref02_bit.f (m : Int) X3 y = some v3b by have h_ := HB3.out y.toNat (by omega); rw [Int.toNat_of_nonneg py, hv3] at h_; exact h_)
            have HB3v := Aside0.mk hv3
            clear hv3
            cases v3b with
            | true =>
              rw [rounds_succ]
              have x_0 : (z2).cell? ⟨b, 0, none⟩ = some (.int .i64 (m : Int)) := (blk_cell P.out.bx 0).trans rfl
              have x_1 : (z2).cell? ⟨b, 1, none⟩ = some (.slice A0 L c0) := (blk_cell P.out.bx 1).trans rfl
              have x_2 : (z2).cell? ⟨b, 2, none⟩ = some (.int .i64 (m : Int)) := (blk_cell P.out.bx 2).trans rfl
              have x_3 : (z2).cell? ⟨b, 3, none⟩ = some (.slice A1 L c1) := (blk_cell P.out.bx 3).trans rfl
              have x_4 : (z2).cell? ⟨b, 4, none⟩ = some (.int .i64 (m : Int)) := (blk_cell P.out.bx 4).trans rfl
              have x_5 : (z2).cell? ⟨b, 5, none⟩ = some (.slice A2 L c2) := (blk_cell P.out.bx 5).trans rfl
              have x_6 : (z2).cell? ⟨b, 6, none⟩ = some (.int .i64 (m : Int)) := (blk_cell P.out.bx 6).trans rfl
              have x_7 : (z2).cell? ⟨b, 7, none⟩ = some (.slice A3 L c3) := (blk_cell P.out.bx 7).trans rfl
              go_wp2_with (go_at_call 52; have P1 := P.out; have h_ := PB.vivariumref02_bit.calls (m : Int) A3 c3 X3 y true z2 (Kd.C_below HC3.out P1.be) HL3.out HB3w.out; rw [HX3.out] at h_; (with_reducible refine h_.mono ?_); clear h_; rintro er_ z3 ⟨rfl, hb⟩; have P2 := P1.on hb; have HV2 := Aside0.mk (pw_own_below HV.out hb); clear hb P P1 HV x_0 x_1 x_2 x_3 x_4 x_5 x_6 x_7; have P := Aside0.mk P2; have HV := HV2; clear P2 HV2)
              rw [rounds_succ]
              obtain ⟨g, e_⟩ := own_some' HV.out (by omega)
              subst e_
              have bc_ : z3.cell? ⟨g, y.toNat, none⟩ = some (.bool false) := own_cell HV.out y.toNat _ (by rw [bools, List.getElem?_map, RefPlain.doneTo_get _ _ (by omega)]; simp)
              have bf_ := own_free HV.out y.toNat
              go_wp2
              go_roundg (m - (y + 1).toNat)
              case measure => go_light; have := HY.out; omega
              case rel =>
                go_light
                refine ⟨y + 1, by have hw : wrap64 (y + 1) = y + 1 := (by unfold wrap64; omega); first | rfl | (rw [hw]; done) | (simp [hw]; done), ⟨by omega, by omega, by omega⟩, ?_⟩
                exact leaf P.out HV.out (by omega) (by omega) 13 rfl (by unfold says; rw [HB0v.out, HB1v.out, HB2v.out, HB3v.out]; rfl)
            | false =>
              rw [rounds_succ]
              have x_0 : (z2).cell? ⟨b, 0, none⟩ = some (.int .i64 (m : Int)) := (blk_cell P.out.bx 0).trans rfl
              have x_1 : (z2).cell? ⟨b, 1, none⟩ = some (.slice A0 L c0) := (blk_cell P.out.bx 1).trans rfl
              have x_2 : (z2).cell? ⟨b, 2, none⟩ = some (.int .i64 (m : Int)) := (blk_cell P.out.bx 2).trans rfl
              have x_3 : (z2).cell? ⟨b, 3, none⟩ = some (.slice A1 L c1) := (blk_cell P.out.bx 3).trans rfl
              have x_4 : (z2).cell? ⟨b, 4, none⟩ = some (.int .i64 (m : Int)) := (blk_cell P.out.bx 4).trans rfl
              have x_5 : (z2).cell? ⟨b, 5, none⟩ = some (.slice A2 L c2) := (blk_cell P.out.bx 5).trans rfl
              have x_6 : (z2).cell? ⟨b, 6, none⟩ = some (.int .i64 (m : Int)) := (blk_cell P.out.bx 6).trans rfl
              have x_7 : (z2).cell? ⟨b, 7, none⟩ = some (.slice A3 L c3) := (blk_cell P.out.bx 7).trans rfl
              go_wp2_with (go_at_call 52; have P1 := P.out; have h_ := PB.vivariumref02_bit.calls (m : Int) A3 c3 X3 y false z2 (Kd.C_below HC3.out P1.be) HL3.out HB3w.out; rw [HX3.out] at h_; (with_reducible refine h_.mono ?_); clear h_; rintro er_ z3 ⟨rfl, hb⟩; have P2 := P1.on hb; have HV2 := Aside0.mk (pw_own_below HV.out hb); clear hb P P1 HV x_0 x_1 x_2 x_3 x_4 x_5 x_6 x_7; have P := Aside0.mk P2; have HV := HV2; clear P2 HV2)
              rw [rounds_succ]
              obtain ⟨g, e_⟩ := own_some' HV.out (by omega)
              subst e_
              have bc_ : z3.cell? ⟨g, y.toNat, none⟩ = some (.bool false) := own_cell HV.out y.toNat _ (by rw [bools, List.getElem?_map, RefPlain.doneTo_get _ _ (by omega)]; simp)
              have bf_ := own_free HV.out y.toNat
              go_wp2
              go_roundg (m - (y + 1).toNat)
              case measure => go_light; have := HY.out; omega
              case rel =>
                go_light
                refine ⟨y + 1, by have hw : wrap64 (y + 1) = y + 1 := (by unfold wrap64; omega); first | rfl | (rw [hw]; done) | (simp [hw]; done), ⟨by omega, by omega, by omega⟩, ?_⟩
                exact leaf P.out HV.out (by omega) (by omega) 5 rfl (by unfold says; rw [HB0v.out, HB1v.out, HB2v.out, HB3v.out]; rfl)
          | false =>
            rw [rounds_succ]
            have x_0 : (z1).cell? ⟨b, 0, none⟩ = some (.int .i64 (m : Int)) := (blk_cell P.out.bx 0).trans rfl
            have x_1 : (z1).cell? ⟨b, 1, none⟩ = some (.slice A0 L c0) := (blk_cell P.out.bx 1).trans rfl
            have x_2 : (z1).cell? ⟨b, 2, none⟩ = some (.int .i64 (m : Int)) := (blk_cell P.out.bx 2).trans rfl
            have x_3 : (z1).cell? ⟨b, 3, none⟩ = some (.slice A1 L c1) := (blk_cell P.out.bx 3).trans rfl
            have x_4 : (z1).cell? ⟨b, 4, none⟩ = some (.int .i64 (m : Int)) := (blk_cell P.out.bx 4).trans rfl
            have x_5 : (z1).cell? ⟨b, 5, none⟩ = some (.slice A2 L c2) := (blk_cell P.out.bx 5).trans rfl
            have x_6 : (z1).cell? ⟨b, 6, none⟩ = some (.int .i64 (m : Int)) := (blk_cell P.out.bx 6).trans rfl
            have x_7 : (z1).cell? ⟨b, 7, none⟩ = some (.slice A3 L c3) := (blk_cell P.out.bx 7).trans rfl
            go_wp2_with (go_at_call 52; have P1 := P.out; have h_ := PB.vivariumref02_bit.calls (m : Int) A2 c2 X2 y false z1 (Kd.C_below HC2.out P1.be) HL2.out HB2w.out; rw [HX2.out] at h_; (with_reducible refine h_.mono ?_); clear h_; rintro er_ z2 ⟨rfl, hb⟩; have P2 := P1.on hb; have HV2 := Aside0.mk (pw_own_below HV.out hb); clear hb P P1 HV x_0 x_1 x_2 x_3 x_4 x_5 x_6 x_7; have P := Aside0.mk P2; have HV := HV2; clear P2 HV2)
            obtain ⟨v3b, hv3⟩ : ∃ q, b3 y.toNat = q := ⟨_, rfl⟩
            have HB3w := Aside0.mk (show PB.vivariumref02_bit.f (m : Int) X3 y = some v3b by have h_ := HB3.out y.toNat (by omega); rw [Int.toNat_of_nonneg py, hv3] at h_; exact h_)
            have HB3v := Aside0.mk hv3
            clear hv3
            cases v3b with
            | true =>
              rw [rounds_succ]
              have x_0 : (z2).cell? ⟨b, 0, none⟩ = some (.int .i64 (m : Int)) := (blk_cell P.out.bx 0).trans rfl
              have x_1 : (z2).cell? ⟨b, 1, none⟩ = some (.slice A0 L c0) := (blk_cell P.out.bx 1).trans rfl
              have x_2 : (z2).cell? ⟨b, 2, none⟩ = some (.int .i64 (m : Int)) := (blk_cell P.out.bx 2).trans rfl
              have x_3 : (z2).cell? ⟨b, 3, none⟩ = some (.slice A1 L c1) := (blk_cell P.out.bx 3).trans rfl
              have x_4 : (z2).cell? ⟨b, 4, none⟩ = some (.int .i64 (m : Int)) := (blk_cell P.out.bx 4).trans rfl
              have x_5 : (z2).cell? ⟨b, 5, none⟩ = some (.slice A2 L c2) := (blk_cell P.out.bx 5).trans rfl
              have x_6 : (z2).cell? ⟨b, 6, none⟩ = some (.int .i64 (m : Int)) := (blk_cell P.out.bx 6).trans rfl
              have x_7 : (z2).cell? ⟨b, 7, none⟩ = some (.slice A3 L c3) := (blk_cell P.out.bx 7).trans rfl
              go_wp2_with (go_at_call 52; have P1 := P.out; have h_ := PB.vivariumref02_bit.calls (m : Int) A3 c3 X3 y true z2 (Kd.C_below HC3.out P1.be) HL3.out HB3w.out; rw [HX3.out] at h_; (with_reducible refine h_.mono ?_); clear h_; rintro er_ z3 ⟨rfl, hb⟩; have P2 := P1.on hb; have HV2 := Aside0.mk (pw_own_below HV.out hb); clear hb P P1 HV x_0 x_1 x_2 x_3 x_4 x_5 x_6 x_7; have P := Aside0.mk P2; have HV := HV2; clear P2 HV2)
              rw [rounds_succ]
              obtain ⟨g, e_⟩ := own_some' HV.out (by omega)
              subst e_
              have bc_ : z3.cell? ⟨g, y.toNat, none⟩ = some (.bool false) := own_cell HV.out y.toNat _ (by rw [bools, List.getElem?_map, RefPlain.doneTo_get _ _ (by omega)]; simp)
              have bf_ := own_free HV.out y.toNat
              go_wp2
              go_roundg (m - (y + 1).toNat)
              case measure => go_light; have := HY.out; omega
              case rel =>
                go_light
                refine ⟨y + 1, by have hw : wrap64 (y + 1) = y + 1 := (by unfold wrap64; omega); first | rfl | (rw [hw]; done) | (simp [hw]; done), ⟨by omega, by omega, by omega⟩, ?_⟩
                exact leaf P.out HV.out (by omega) (by omega) 9 rfl (by unfold says; rw [HB0v.out, HB1v.out, HB2v.out, HB3v.out]; rfl)
            | false =>
              rw [rounds_succ]
              have x_0 : (z2).cell? ⟨b, 0, none⟩ = some (.int .i64 (m : Int)) := (blk_cell P.out.bx 0).trans rfl
              have x_1 : (z2).cell? ⟨b, 1, none⟩ = some (.slice A0 L c0) := (blk_cell P.out.bx 1).trans rfl
              have x_2 : (z2).cell? ⟨b, 2, none⟩ = some (.int .i64 (m : Int)) := (blk_cell P.out.bx 2).trans rfl
              have x_3 : (z2).cell? ⟨b, 3, none⟩ = some (.slice A1 L c1) := (blk_cell P.out.bx 3).trans rfl
              have x_4 : (z2).cell? ⟨b, 4, none⟩ = some (.int .i64 (m : Int)) := (blk_cell P.out.bx 4).trans rfl
              have x_5 : (z2).cell? ⟨b, 5, none⟩ = some (.slice A2 L c2) := (blk_cell P.out.bx 5).trans rfl
              have x_6 : (z2).cell? ⟨b, 6, none⟩ = some (.int .i64 (m : Int)) := (blk_cell P.out.bx 6).trans rfl
              have x_7 : (z2).cell? ⟨b, 7, none⟩ = some (.slice A3 L c3) := (blk_cell P.out.bx 7).trans rfl
              go_wp2_with (go_at_call 52; have P1 := P.out; have h_ := PB.vivariumref02_bit.calls (m : Int) A3 c3 X3 y false z2 (Kd.C_below HC3.out P1.be) HL3.out HB3w.out; rw [HX3.out] at h_; (with_reducible refine h_.mono ?_); clear h_; rintro er_ z3 ⟨rfl, hb⟩; have P2 := P1.on hb; have HV2 := Aside0.mk (pw_own_below HV.out hb); clear hb P P1 HV x_0 x_1 x_2 x_3 x_4 x_5 x_6 x_7; have P := Aside0.mk P2; have HV := HV2; clear P2 HV2)
              rw [rounds_succ]
              obtain ⟨g, e_⟩ := own_some' HV.out (by omega)
              subst e_
              have bc_ : z3.cell? ⟨g, y.toNat, none⟩ = some (.bool false) := own_cell HV.out y.toNat _ (by rw [bools, List.getElem?_map, RefPlain.doneTo_get _ _ (by omega)]; simp)
              have bf_ := own_free HV.out y.toNat
              go_wp2
              go_roundg (m - (y + 1).toNat)
              case measure => go_light; have := HY.out; omega
              case rel =>
                go_light
                refine ⟨y + 1, by have hw : wrap64 (y + 1) = y + 1 := (by unfold wrap64; omega); first | rfl | (rw [hw]; done) | (simp [hw]; done), ⟨by omega, by omega, by omega⟩, ?_⟩
                exact leaf P.out HV.out (by omega) (by omega) 1 rfl (by unfold says; rw [HB0v.out, HB1v.out, HB2v.out, HB3v.out]; rfl)
      | false =>
        rw [rounds_succ]
        have x_0 : (wr).cell? ⟨b, 0, none⟩ = some (.int .i64 (m : Int)) := (blk_cell P.out.bx 0).trans rfl
        have x_1 : (wr).cell? ⟨b, 1, none⟩ = some (.slice A0 L c0) := (blk_cell P.out.bx 1).trans rfl
        have x_2 : (wr).cell? ⟨b, 2, none⟩ = some (.int .i64 (m : Int)) := (blk_cell P.out.bx 2).trans rfl
        have x_3 : (wr).cell? ⟨b, 3, none⟩ = some (.slice A1 L c1) := (blk_cell P.out.bx 3).trans rfl
        have x_4 : (wr).cell? ⟨b, 4, none⟩ = some (.int .i64 (m : Int)) := (blk_cell P.out.bx 4).trans rfl
        have x_5 : (wr).cell? ⟨b, 5, none⟩ = some (.slice A2 L c2) := (blk_cell P.out.bx 5).trans rfl
        have x_6 : (wr).cell? ⟨b, 6, none⟩ = some (.int .i64 (m : Int)) := (blk_cell P.out.bx 6).trans rfl
        have x_7 : (wr).cell? ⟨b, 7, none⟩ = some (.slice A3 L c3) := (blk_cell P.out.bx 7).trans rfl
        go_wp2_with (go_at_call 52; have P1 := P.out; have h_ := PB.vivariumref02_bit.calls (m : Int) A0 c0 X0 y false wr (Kd.C_below HC0.out P1.be) HL0.out HB0w.out; rw [HX0.out] at h_; (with_reducible refine h_.mono ?_); clear h_; rintro er_ z0 ⟨rfl, hb⟩; have P2 := P1.on hb; have HV2 := Aside0.mk (pw_own_below HV.out hb); clear hb P P1 HV x_0 x_1 x_2 x_3 x_4 x_5 x_6 x_7; have P := Aside0.mk P2; have HV := HV2; clear P2 HV2)
        obtain ⟨v1b, hv1⟩ : ∃ q, b1 y.toNat = q := ⟨_, rfl⟩
        have HB1w := Aside0.mk (show PB.vivariumref02_bit.f (m : Int) X1 y = some v1b by have h_ := HB1.out y.toNat (by omega); rw [Int.toNat_of_nonneg py, hv1] at h_; exact h_)
        have HB1v := Aside0.mk hv1
        clear hv1
        cases v1b with
        | true =>
          rw [rounds_succ]
          have x_0 : (z0).cell? ⟨b, 0, none⟩ = some (.int .i64 (m : Int)) := (blk_cell P.out.bx 0).trans rfl
          have x_1 : (z0).cell? ⟨b, 1, none⟩ = some (.slice A0 L c0) := (blk_cell P.out.bx 1).trans rfl
          have x_2 : (z0).cell? ⟨b, 2, none⟩ = some (.int .i64 (m : Int)) := (blk_cell P.out.bx 2).trans rfl
          have x_3 : (z0).cell? ⟨b, 3, none⟩ = some (.slice A1 L c1) := (blk_cell P.out.bx 3).trans rfl
          have x_4 : (z0).cell? ⟨b, 4, none⟩ = some (.int .i64 (m : Int)) := (blk_cell P.out.bx 4).trans rfl
          have x_5 : (z0).cell? ⟨b, 5, none⟩ = some (.slice A2 L c2) := (blk_cell P.out.bx 5).trans rfl
          have x_6 : (z0).cell? ⟨b, 6, none⟩ = some (.int .i64 (m : Int)) := (blk_cell P.out.bx 6).trans rfl
          have x_7 : (z0).cell? ⟨b, 7, none⟩ = some (.slice A3 L c3) := (blk_cell P.out.bx 7).trans rfl
          go_wp2_with (go_at_call 52; have P1 := P.out; have h_ := PB.vivariumref02_bit.calls (m : Int) A1 c1 X1 y true z0 (Kd.C_below HC1.out P1.be) HL1.out HB1w.out; rw [HX1.out] at h_; (with_reducible refine h_.mono ?_); clear h_; rintro er_ z1 ⟨rfl, hb⟩; have P2 := P1.on hb; have HV2 := Aside0.mk (pw_own_below HV.out hb); clear hb P P1 HV x_0 x_1 x_2 x_3 x_4 x_5 x_6 x_7; have P := Aside0.mk P2; have HV := HV2; clear P2 HV2)
          obtain ⟨v2b, hv2⟩ : ∃ q, b2 y.toNat = q := ⟨_, rfl⟩
          have HB2w := Aside0.mk (show PB.vivariumref02_bit.f (m : Int) X2 y = some v2b by have h_ := HB2.out y.toNat (by omega); rw [Int.toNat_of_nonneg py, hv2] at h_; exact h_)
          have HB2v := Aside0.mk hv2
          clear hv2
          cases v2b with
          | true =>
            rw [rounds_succ]
            have x_0 : (z1).cell? ⟨b, 0, none⟩ = some (.int .i64 (m : Int)) := (blk_cell P.out.bx 0).trans rfl
            have x_1 : (z1).cell? ⟨b, 1, none⟩ = some (.slice A0 L c0) := (blk_cell P.out.bx 1).trans rfl
            have x_2 : (z1).cell? ⟨b, 2, none⟩ = some (.int .i64 (m : Int)) := (blk_cell P.out.bx 2).trans rfl
            have x_3 : (z1).cell? ⟨b, 3, none⟩ = some (.slice A1 L c1) := (blk_cell P.out.bx 3).trans rfl
            have x_4 : (z1).cell? ⟨b, 4, none⟩ = some (.int .i64 (m : Int)) := (blk_cell P.out.bx 4).trans rfl
            have x_5 : (z1).cell? ⟨b, 5, none⟩ = some (.slice A2 L c2) := (blk_cell P.out.bx 5).trans rfl
            have x_6 : (z1).cell? ⟨b, 6, none⟩ = some (.int .i64 (m : Int)) := (blk_cell P.out.bx 6).trans rfl
            have x_7 : (z1).cell? ⟨b, 7, none⟩ = some (.slice A3 L c3) := (blk_cell P.out.bx 7).trans rfl
            go_wp2_with (go_at_call 52; have P1 := P.out; have h_ := PB.vivariumref02_bit.calls (m : Int) A2 c2 X2 y true z1 (Kd.C_below HC2.out P1.be) HL2.out HB2w.out; rw [HX2.out] at h_; (with_reducible refine h_.mono ?_); clear h_; rintro er_ z2 ⟨rfl, hb⟩; have P2 := P1.on hb; have HV2 := Aside0.mk (pw_own_below HV.out hb); clear hb P P1 HV x_0 x_1 x_2 x_3 x_4 x_5 x_6 x_7; have P := Aside0.mk P2; have HV := HV2; clear P2 HV2)
            obtain ⟨v3b, hv3⟩ : ∃ q, b3 y.toNat = q := ⟨_, rfl⟩
            have HB3w := Aside0.mk (show PB.vivariumref02_bit.f (m : Int) X3 y = some v3b by have h_ := HB3.out y.toNat (by omega); rw [Int.toNat_of_nonneg py, hv3] at h_; exact h_)
            have HB3v := Aside0.mk hv3
            clear hv3
            cases v3b with
            | true =>
              rw [rounds_succ]
              have x_0 : (z2).cell? ⟨b, 0, none⟩ = some (.int .i64 (m : Int)) := (blk_cell P.out.bx 0).trans rfl
              have x_1 : (z2).cell? ⟨b, 1, none⟩ = some (.slice A0 L c0) := (blk_cell P.out.bx 1).trans rfl
              have x_2 : (z2).cell? ⟨b, 2, none⟩ = some (.int .i64 (m : Int)) := (blk_cell P.out.bx 2).trans rfl
              have x_3 : (z2).cell? ⟨b, 3, none⟩ = some (.slice A1 L c1) := (blk_cell P.out.bx 3).trans rfl
              have x_4 : (z2).cell? ⟨b, 4, none⟩ = some (.int .i64 (m : Int)) := (blk_cell P.out.bx 4).trans rfl
              have x_5 : (z2).cell? ⟨b, 5, none⟩ = some (.slice A2 L c2) := (blk_cell P.out.bx 5).trans rfl
              have x_6 : (z2).cell? ⟨b, 6, none⟩ = some (.int .i64 (m : Int)) := (blk_cell P.out.bx 6).trans rfl
              have x_7 : (z2).cell? ⟨b, 7, none⟩ = some (.slice A3 L c3) := (blk_cell P.out.bx 7).trans rfl
              go_wp2_with (go_at_call 52; have P1 := P.out; have h_ := PB.vivariumref02_bit.calls (m : Int) A3 c3 X3 y true z2 (Kd.C_below HC3.out P1.be) HL3.out HB3w.out; rw [HX3.out] at h_; (with_reducible refine h_.mono ?_); clear h_; rintro er_ z3 ⟨rfl, hb⟩; have P2 := P1.on hb; have HV2 := Aside0.mk (pw_own_below HV.out hb); clear hb P P1 HV x_0 x_1 x_2 x_3 x_4 x_5 x_6 x_7; have P := Aside0.mk P2; have HV := HV2; clear P2 HV2)
              rw [rounds_succ]
              obtain ⟨g, e_⟩ := own_some' HV.out (by omega)
              subst e_
              have bc_ : z3.cell? ⟨g, y.toNat, none⟩ = some (.bool false) := own_cell HV.out y.toNat _ (by rw [bools, List.getElem?_map, RefPlain.doneTo_get _ _ (by omega)]; simp)
              have bf_ := own_free HV.out y.toNat
              go_wp2
              go_roundg (m - (y + 1).toNat)
              case measure => go_light; have := HY.out; omega
              case rel =>
                go_light
                refine ⟨y + 1, by have hw : wrap64 (y + 1) = y + 1 := (by unfold wrap64; omega); first | rfl | (rw [hw]; done) | (simp [hw]; done), ⟨by omega, by omega, by omega⟩, ?_⟩
                exact leaf P.out HV.out (by omega) (by omega) 14 rfl (by unfold says; rw [HB0v.out, HB1v.out, HB2v.out, HB3v.out]; rfl)
            | false =>
              rw [rounds_succ]
              have x_0 : (z2).cell? ⟨b, 0, none⟩ = some (.int .i64 (m : Int)) := (blk_cell P.out.bx 0).trans rfl
              have x_1 : (z2).cell? ⟨b, 1, none⟩ = some (.slice A0 L c0) := (blk_cell P.out.bx 1).trans rfl
              have x_2 : (z2).cell? ⟨b, 2, none⟩ = some (.int .i64 (m : Int)) := (blk_cell P.out.bx 2).trans rfl
              have x_3 : (z2).cell? ⟨b, 3, none⟩ = some (.slice A1 L c1) := (blk_cell P.out.bx 3).trans rfl
              have x_4 : (z2).cell? ⟨b, 4, none⟩ = some (.int .i64 (m : Int)) := (blk_cell P.out.bx 4).trans rfl
              have x_5 : (z2).cell? ⟨b, 5, none⟩ = some (.slice A2 L c2) := (blk_cell P.out.bx 5).trans rfl
              have x_6 : (z2).cell? ⟨b, 6, none⟩ = some (.int .i64 (m : Int)) := (blk_cell P.out.bx 6).trans rfl
              have x_7 : (z2).cell? ⟨b, 7, none⟩ = some (.slice A3 L c3) := (blk_cell P.out.bx 7).trans rfl
              go_wp2_with (go_at_call 52; have P1 := P.out; have h_ := PB.vivariumref02_bit.calls (m : Int) A3 c3 X3 y false z2 (Kd.C_below HC3.out P1.be) HL3.out HB3w.out; rw [HX3.out] at h_; (with_reducible refine h_.mono ?_); clear h_; rintro er_ z3 ⟨rfl, hb⟩; have P2 := P1.on hb; have HV2 := Aside0.mk (pw_own_below HV.out hb); clear hb P P1 HV x_0 x_1 x_2 x_3 x_4 x_5 x_6 x_7; have P := Aside0.mk P2; have HV := HV2; clear P2 HV2)
              rw [rounds_succ]
              obtain ⟨g, e_⟩ := own_some' HV.out (by omega)
              subst e_
              have bc_ : z3.cell? ⟨g, y.toNat, none⟩ = some (.bool false) := own_cell HV.out y.toNat _ (by rw [bools, List.getElem?_map, RefPlain.doneTo_get _ _ (by omega)]; simp)
              have bf_ := own_free HV.out y.toNat
              go_wp2
              go_roundg (m - (y + 1).toNat)
              case measure => go_light; have := HY.out; omega
              case rel =>
                go_light
                refine ⟨y + 1, by have hw : wrap64 (y + 1) = y + 1 := (by unfold wrap64; omega); first | rfl | (rw [hw]; done) | (simp [hw]; done), ⟨by omega, by omega, by omega⟩, ?_⟩
                exact leaf P.out HV.out (by omega) (by omega) 6 rfl (by unfold says; rw [HB0v.out, HB1v.out, HB2v.out, HB3v.out]; rfl)
          | false =>
            rw [rounds_succ]
            have x_0 : (z1).cell? ⟨b, 0, none⟩ = some (.int .i64 (m : Int)) := (blk_cell P.out.bx 0).trans rfl
            have x_1 : (z1).cell? ⟨b, 1, none⟩ = some (.slice A0 L c0) := (blk_cell P.out.bx 1).trans rfl
            have x_2 : (z1).cell? ⟨b, 2, none⟩ = some (.int .i64 (m : Int)) := (blk_cell P.out.bx 2).trans rfl
            have x_3 : (z1).cell? ⟨b, 3, none⟩ = some (.slice A1 L c1) := (blk_cell P.out.bx 3).trans rfl
            have x_4 : (z1).cell? ⟨b, 4, none⟩ = some (.int .i64 (m : Int)) := (blk_cell P.out.bx 4).trans rfl
            have x_5 : (z1).cell? ⟨b, 5, none⟩ = some (.slice A2 L c2) := (blk_cell P.out.bx 5).trans rfl
            have x_6 : (z1).cell? ⟨b, 6, none⟩ = some (.int .i64 (m : Int)) := (blk_cell P.out.bx 6).trans rfl
            have x_7 : (z1).cell? ⟨b, 7, none⟩ = some (.slice A3 L c3) := (blk_cell P.out.bx 7).trans rfl
            go_wp2_with (go_at_call 52; have P1 := P.out; have h_ := PB.vivariumref02_bit.calls (m : Int) A2 c2 X2 y false z1 (Kd.C_below HC2.out P1.be) HL2.out HB2w.out; rw [HX2.out] at h_; (with_reducible refine h_.mono ?_); clear h_; rintro er_ z2 ⟨rfl, hb⟩; have P2 := P1.on hb; have HV2 := Aside0.mk (pw_own_below HV.out hb); clear hb P P1 HV x_0 x_1 x_2 x_3 x_4 x_5 x_6 x_7; have P := Aside0.mk P2; have HV := HV2; clear P2 HV2)
            obtain ⟨v3b, hv3⟩ : ∃ q, b3 y.toNat = q := ⟨_, rfl⟩
            have HB3w := Aside0.mk (show PB.vivariumref02_bit.f (m : Int) X3 y = some v3b by have h_ := HB3.out y.toNat (by omega); rw [Int.toNat_of_nonneg py, hv3] at h_; exact h_)
            have HB3v := Aside0.mk hv3
            clear hv3
            cases v3b with
            | true =>
              rw [rounds_succ]
              have x_0 : (z2).cell? ⟨b, 0, none⟩ = some (.int .i64 (m : Int)) := (blk_cell P.out.bx 0).trans rfl
              have x_1 : (z2).cell? ⟨b, 1, none⟩ = some (.slice A0 L c0) := (blk_cell P.out.bx 1).trans rfl
              have x_2 : (z2).cell? ⟨b, 2, none⟩ = some (.int .i64 (m : Int)) := (blk_cell P.out.bx 2).trans rfl
              have x_3 : (z2).cell? ⟨b, 3, none⟩ = some (.slice A1 L c1) := (blk_cell P.out.bx 3).trans rfl
              have x_4 : (z2).cell? ⟨b, 4, none⟩ = some (.int .i64 (m : Int)) := (blk_cell P.out.bx 4).trans rfl
              have x_5 : (z2).cell? ⟨b, 5, none⟩ = some (.slice A2 L c2) := (blk_cell P.out.bx 5).trans rfl
              have x_6 : (z2).cell? ⟨b, 6, none⟩ = some (.int .i64 (m : Int)) := (blk_cell P.out.bx 6).trans rfl
              have x_7 : (z2).cell? ⟨b, 7, none⟩ = some (.slice A3 L c3) := (blk_cell P.out.bx 7).trans rfl
              go_wp2_with (go_at_call 52; have P1 := P.out; have h_ := PB.vivariumref02_bit.calls (m : Int) A3 c3 X3 y true z2 (Kd.C_below HC3.out P1.be) HL3.out HB3w.out; rw [HX3.out] at h_; (with_reducible refine h_.mono ?_); clear h_; rintro er_ z3 ⟨rfl, hb⟩; have P2 := P1.on hb; have HV2 := Aside0.mk (pw_own_below HV.out hb); clear hb P P1 HV x_0 x_1 x_2 x_3 x_4 x_5 x_6 x_7; have P := Aside0.mk P2; have HV := HV2; clear P2 HV2)
              rw [rounds_succ]
              obtain ⟨g, e_⟩ := own_some' HV.out (by omega)
              subst e_
              have bc_ : z3.cell? ⟨g, y.toNat, none⟩ = some (.bool false) := own_cell HV.out y.toNat _ (by rw [bools, List.getElem?_map, RefPlain.doneTo_get _ _ (by omega)]; simp)
              have bf_ := own_free HV.out y.toNat
              go_wp2
              go_roundg (m - (y + 1).toNat)
              case measure => go_light; have := HY.out; omega
              case rel =>
                go_light
                refine ⟨y + 1, by have hw : wrap64 (y + 1) = y + 1 := (by unfold wrap64; omega); first | rfl | (rw [hw]; done) | (simp [hw]; done), ⟨by omega, by omega, by omega⟩, ?_⟩
                exact leaf P.out HV.out (by omega) (by omega) 10 rfl (by unfold says; rw [HB0v.out, HB1v.out, HB2v.out, HB3v.out]; rfl)
            | false =>
              rw [rounds_succ]
              have x_0 : (z2).cell? ⟨b, 0, none⟩ = some (.int .i64 (m : Int)) := (blk_cell P.out.bx 0).trans rfl
              have x_1 : (z2).cell? ⟨b, 1, none⟩ = some (.slice A0 L c0) := (blk_cell P.out.bx 1).trans rfl
              have x_2 : (z2).cell? ⟨b, 2, none⟩ = some (.int .i64 (m : Int)) := (blk_cell P.out.bx 2).trans rfl
              have x_3 : (z2).cell? ⟨b, 3, none⟩ = some (.slice A1 L c1) := (blk_cell P.out.bx 3).trans rfl
              have x_4 : (z2).cell? ⟨b, 4, none⟩ = some (.int .i64 (m : Int)) := (blk_cell P.out.bx 4).trans rfl
              have x_5 : (z2).cell? ⟨b, 5, none⟩ = some (.slice A2 L c2) := (blk_cell P.out.bx 5).trans rfl
              have x_6 : (z2).cell? ⟨b, 6, none⟩ = some (.int .i64 (m : Int)) := (blk_cell P.out.bx 6).trans rfl
              have x_7 : (z2).cell? ⟨b, 7, none⟩ = some (.slice A3 L c3) := (blk_cell P.out.bx 7).trans rfl
              go_wp2_with (go_at_call 52; have P1 := P.out; have h_ := PB.vivariumref02_bit.calls (m : Int) A3 c3 X3 y false z2 (Kd.C_below HC3.out P1.be) HL3.out HB3w.out; rw [HX3.out] at h_; (with_reducible refine h_.mono ?_); clear h_; rintro er_ z3 ⟨rfl, hb⟩; have P2 := P1.on hb; have HV2 := Aside0.mk (pw_own_below HV.out hb); clear hb P P1 HV x_0 x_1 x_2 x_3 x_4 x_5 x_6 x_7; have P := Aside0.mk P2; have HV := HV2; clear P2 HV2)
              rw [rounds_succ]
              obtain ⟨g, e_⟩ := own_some' HV.out (by omega)
              subst e_
              have bc_ : z3.cell? ⟨g, y.toNat, none⟩ = some (.bool false) := own_cell HV.out y.toNat _ (by rw [bools, List.getElem?_map, RefPlain.doneTo_get _ _ (by omega)]; simp)
              have bf_ := own_free HV.out y.toNat
              go_wp2
              go_roundg (m - (y + 1).toNat)
              case measure => go_light; have := HY.out; omega
              case rel =>
                go_light
                refine ⟨y + 1, by have hw : wrap64 (y + 1) = y + 1 := (by unfold wrap64; omega); first | rfl | (rw [hw]; done) | (simp [hw]; done), ⟨by omega, by omega, by omega⟩, ?_⟩
                exact leaf P.out HV.out (by omega) (by omega) 2 rfl (by unfold says; rw [HB0v.out, HB1v.out, HB2v.out, HB3v.out]; rfl)
        | false =>
          rw [rounds_succ]
          have x_0 : (z0).cell? ⟨b, 0, none⟩ = some (.int .i64 (m : Int)) := (blk_cell P.out.bx 0).trans rfl
          have x_1 : (z0).cell? ⟨b, 1, none⟩ = some (.slice A0 L c0) := (blk_cell P.out.bx 1).trans rfl
          have x_2 : (z0).cell? ⟨b, 2, none⟩ = some (.int .i64 (m : Int)) := (blk_cell P.out.bx 2).trans rfl
          have x_3 : (z0).cell? ⟨b, 3, none⟩ = some (.slice A1 L c1) := (blk_cell P.out.bx 3).trans rfl
          have x_4 : (z0).cell? ⟨b, 4, none⟩ = some (.int .i64 (m : Int)) := (blk_cell P.out.bx 4).trans rfl
          have x_5 : (z0).cell? ⟨b, 5, none⟩ = some (.slice A2 L c2) := (blk_cell P.out.bx 5).trans rfl
          have x_6 : (z0).cell? ⟨b, 6, none⟩ = some (.int .i64 (m : Int)) := (blk_cell P.out.bx 6).trans rfl
          have x_7 : (z0).cell? ⟨b, 7, none⟩ = some (.slice A3 L c3) := (blk_cell P.out.bx 7).trans rfl
          go_wp2_with (go_at_call 52; have P1 := P.out; have h_ := PB.vivariumref02_bit.calls (m : Int) A1 c1 X1 y false z0 (Kd.C_below HC1.out P1.be) HL1.out HB1w.out; rw [HX1.out] at h_; (with_reducible refine h_.mono ?_); clear h_; rintro er_ z1 ⟨rfl, hb⟩; have P2 := P1.on hb; have HV2 := Aside0.mk (pw_own_below HV.out hb); clear hb P P1 HV x_0 x_1 x_2 x_3 x_4 x_5 x_6 x_7; have P := Aside0.mk P2; have HV := HV2; clear P2 HV2)
          obtain ⟨v2b, hv2⟩ : ∃ q, b2 y.toNat = q := ⟨_, rfl⟩
          have HB2w := Aside0.mk (show PB.vivariumref02_bit.f (m : Int) X2 y = some v2b by have h_ := HB2.out y.toNat (by omega); rw [Int.toNat_of_nonneg py, hv2] at h_; exact h_)
          have HB2v := Aside0.mk hv2
          clear hv2
          cases v2b with
          | true =>
            rw [rounds_succ]
            have x_0 : (z1).cell? ⟨b, 0, none⟩ = some (.int .i64 (m : Int)) := (blk_cell P.out.bx 0).trans rfl
            have x_1 : (z1).cell? ⟨b, 1, none⟩ = some (.slice A0 L c0) := (blk_cell P.out.bx 1).trans rfl
            have x_2 : (z1).cell? ⟨b, 2, none⟩ = some (.int .i64 (m : Int)) := (blk_cell P.out.bx 2).trans rfl
            have x_3 : (z1).cell? ⟨b, 3, none⟩ = some (.slice A1 L c1) := (blk_cell P.out.bx 3).trans rfl
            have x_4 : (z1).cell? ⟨b, 4, none⟩ = some (.int .i64 (m : Int)) := (blk_cell P.out.bx 4).trans rfl
            have x_5 : (z1).cell? ⟨b, 5, none⟩ = some (.slice A2 L c2) := (blk_cell P.out.bx 5).trans rfl
            have x_6 : (z1).cell? ⟨b, 6, none⟩ = some (.int .i64 (m : Int)) := (blk_cell P.out.bx 6).trans rfl
            have x_7 : (z1).cell? ⟨b, 7, none⟩ = some (.slice A3 L c3) := (blk_cell P.out.bx 7).trans rfl
            go_wp2_with (go_at_call 52; have P1 := P.out; have h_ := PB.vivariumref02_bit.calls (m : Int) A2 c2 X2 y true z1 (Kd.C_below HC2.out P1.be) HL2.out HB2w.out; rw [HX2.out] at h_; (with_reducible refine h_.mono ?_); clear h_; rintro er_ z2 ⟨rfl, hb⟩; have P2 := P1.on hb; have HV2 := Aside0.mk (pw_own_below HV.out hb); clear hb P P1 HV x_0 x_1 x_2 x_3 x_4 x_5 x_6 x_7; have P := Aside0.mk P2; have HV := HV2; clear P2 HV2)
            obtain ⟨v3b, hv3⟩ : ∃ q, b3 y.toNat = q := ⟨_, rfl⟩
            have HB3w := Aside0.mk (show PB.vivariumref02_bit.f (m : Int) X3 y = some v3b by have h_ := HB3.out y.toNat (by omega); rw [Int.toNat_of_nonneg py, hv3] at h_; exact h_)
            have HB3v := Aside0.mk hv3
            clear hv3
            cases v3b with
            | true =>
              rw [rounds_succ]
              have x_0 : (z2).cell? ⟨b, 0, none⟩ = some (.int .i64 (m : Int)) := (blk_cell P.out.bx 0).trans rfl
              have x_1 : (z2).cell? ⟨b, 1, none⟩ = some (.slice A0 L c0) := (blk_cell P.out.bx 1).trans rfl
              have x_2 : (z2).cell? ⟨b, 2, none⟩ = some (.int .i64 (m : Int)) := (blk_cell P.out.bx 2).trans rfl
              have x_3 : (z2).cell? ⟨b, 3, none⟩ = some (.slice A1 L c1) := (blk_cell P.out.bx 3).trans rfl
              have x_4 : (z2).cell? ⟨b, 4, none⟩ = some (.int .i64 (m : Int)) := (blk_cell P.out.bx 4).trans rfl
              have x_5 : (z2).cell? ⟨b, 5, none⟩ = some (.slice A2 L c2) := (blk_cell P.out.bx 5).trans rfl
              have x_6 : (z2).cell? ⟨b, 6, none⟩ = some (.int .i64 (m : Int)) := (blk_cell P.out.bx 6).trans rfl
              have x_7 : (z2).cell? ⟨b, 7, none⟩ = some (.slice A3 L c3) := (blk_cell P.out.bx 7).trans rfl
              go_wp2_with (go_at_call 52; have P1 := P.out; have h_ := PB.vivariumref02_bit.calls (m : Int) A3 c3 X3 y true z2 (Kd.C_below HC3.out P1.be) HL3.out HB3w.out; rw [HX3.out] at h_; (with_reducible refine h_.mono ?_); clear h_; rintro er_ z3 ⟨rfl, hb⟩; have P2 := P1.on hb; have HV2 := Aside0.mk (pw_own_below HV.out hb); clear hb P P1 HV x_0 x_1 x_2 x_3 x_4 x_5 x_6 x_7; have P := Aside0.mk P2; have HV := HV2; clear P2 HV2)
              rw [rounds_succ]
              obtain ⟨g, e_⟩ := own_some' HV.out (by omega)
              subst e_
              have bc_ : z3.cell? ⟨g, y.toNat, none⟩ = some (.bool false) := own_cell HV.out y.toNat _ (by rw [bools, List.getElem?_map, RefPlain.doneTo_get _ _ (by omega)]; simp)
              have bf_ := own_free HV.out y.toNat
              go_wp2
              go_roundg (m - (y + 1).toNat)
              case measure => go_light; have := HY.out; omega
              case rel =>
                go_light
                refine ⟨y + 1, by have hw : wrap64 (y + 1) = y + 1 := (by unfold wrap64; omega); first | rfl | (rw [hw]; done) | (simp [hw]; done), ⟨by omega, by omega, by omega⟩, ?_⟩
                exact leaf P.out HV.out (by omega) (by omega) 12 rfl (by unfold says; rw [HB0v.out, HB1v.out, HB2v.out, HB3v.out]; rfl)
            | false =>
              rw [rounds_succ]
              have x_0 : (z2).cell? ⟨b, 0, none⟩ = some (.int .i64 (m : Int)) := (blk_cell P.out.bx 0).trans rfl
              have x_1 : (z2).cell? ⟨b, 1, none⟩ = some (.slice A0 L c0) := (blk_cell P.out.bx 1).trans rfl
              have x_2 : (z2).cell? ⟨b, 2, none⟩ = some (.int .i64 (m : Int)) := (blk_cell P.out.bx 2).trans rfl
              have x_3 : (z2).cell? ⟨b, 3, none⟩ = some (.slice A1 L c1) := (blk_cell P.out.bx 3).trans rfl
              have x_4 : (z2).cell? ⟨b, 4, none⟩ = some (.int .i64 (m : Int)) := (blk_cell P.out.bx 4).trans rfl
              have x_5 : (z2).cell? ⟨b, 5, none⟩ = some (.slice A2 L c2) := (blk_cell P.out.bx 5).trans rfl
              have x_6 : (z2).cell? ⟨b, 6, none⟩ = some (.int .i64 (m : Int)) := (blk_cell P.out.bx 6).trans rfl
              have x_7 : (z2).cell? ⟨b, 7, none⟩ = some (.slice A3 L c3) := (blk_cell P.out.bx 7).trans rfl
              go_wp2_with (go_at_call 52; have P1 := P.out; have h_ := PB.vivariumref02_bit.calls (m : Int) A3 c3 X3 y false z2 (Kd.C_below HC3.out P1.be) HL3.out HB3w.out; rw [HX3.out] at h_; (with_reducible refine h_.mono ?_); clear h_; rintro er_ z3 ⟨rfl, hb⟩; have P2 := P1.on hb; have HV2 := Aside0.mk (pw_own_below HV.out hb); clear hb P P1 HV x_0 x_1 x_2 x_3 x_4 x_5 x_6 x_7; have P := Aside0.mk P2; have HV := HV2; clear P2 HV2)
              rw [rounds_succ]
              obtain ⟨g, e_⟩ := own_some' HV.out (by omega)
              subst e_
              have bc_ : z3.cell? ⟨g, y.toNat, none⟩ = some (.bool false) := own_cell HV.out y.toNat _ (by rw [bools, List.getElem?_map, RefPlain.doneTo_get _ _ (by omega)]; simp)
              have bf_ := own_free HV.out y.toNat
              go_wp2
              go_roundg (m - (y + 1).toNat)
              case measure => go_light; have := HY.out; omega
              case rel =>
                go_light
                refine ⟨y + 1, by have hw : wrap64 (y + 1) = y + 1 := (by unfold wrap64; omega); first | rfl | (rw [hw]; done) | (simp [hw]; done), ⟨by omega, by omega, by omega⟩, ?_⟩
                exact leaf P.out HV.out (by omega) (by omega) 4 rfl (by unfold says; rw [HB0v.out, HB1v.out, HB2v.out, HB3v.out]; rfl)
          | false =>
            rw [rounds_succ]
            have x_0 : (z1).cell? ⟨b, 0, none⟩ = some (.int .i64 (m : Int)) := (blk_cell P.out.bx 0).trans rfl
            have x_1 : (z1).cell? ⟨b, 1, none⟩ = some (.slice A0 L c0) := (blk_cell P.out.bx 1).trans rfl
            have x_2 : (z1).cell? ⟨b, 2, none⟩ = some (.int .i64 (m : Int)) := (blk_cell P.out.bx 2).trans rfl
            have x_3 : (z1).cell? ⟨b, 3, none⟩ = some (.slice A1 L c1) := (blk_cell P.out.bx 3).trans rfl
            have x_4 : (z1).cell? ⟨b, 4, none⟩ = some (.int .i64 (m : Int)) := (blk_cell P.out.bx 4).trans rfl
            have x_5 : (z1).cell? ⟨b, 5, none⟩ = some (.slice A2 L c2) := (blk_cell P.out.bx 5).trans rfl
            have x_6 : (z1).cell? ⟨b, 6, none⟩ = some (.int .i64 (m : Int)) := (blk_cell P.out.bx 6).trans rfl
            have x_7 : (z1).cell? ⟨b, 7, none⟩ = some (.slice A3 L c3) := (blk_cell P.out.bx 7).trans rfl
            go_wp2_with (go_at_call 52; have P1 := P.out; have h_ := PB.vivariumref02_bit.calls (m : Int) A2 c2 X2 y false z1 (Kd.C_below HC2.out P1.be) HL2.out HB2w.out; rw [HX2.out] at h_; (with_reducible refine h_.mono ?_); clear h_; rintro er_ z2 ⟨rfl, hb⟩; have P2 := P1.on hb; have HV2 := Aside0.mk (pw_own_below HV.out hb); clear hb P P1 HV x_0 x_1 x_2 x_3 x_4 x_5 x_6 x_7; have P := Aside0.mk P2; have HV := HV2; clear P2 HV2)
            obtain ⟨v3b, hv3⟩ : ∃ q, b3 y.toNat = q := ⟨_, rfl⟩
            have HB3w := Aside0.mk (show PB.vivariumref02_bit.f (m : Int) X3 y = some v3b by have h_ := HB3.out y.toNat (by omega); rw [Int.toNat_of_nonneg py, hv3] at h_; exact h_)
            have HB3v := Aside0.mk hv3
            clear hv3
            cases v3b with
            | true =>
              rw [rounds_succ]
              have x_0 : (z2).cell? ⟨b, 0, none⟩ = some (.int .i64 (m : Int)) := (blk_cell P.out.bx 0).trans rfl
              have x_1 : (z2).cell? ⟨b, 1, none⟩ = some (.slice A0 L c0) := (blk_cell P.out.bx 1).trans rfl
              have x_2 : (z2).cell? ⟨b, 2, none⟩ = some (.int .i64 (m : Int)) := (blk_cell P.out.bx 2).trans rfl
              have x_3 : (z2).cell? ⟨b, 3, none⟩ = some (.slice A1 L c1) := (blk_cell P.out.bx 3).trans rfl
              have x_4 : (z2).cell? ⟨b, 4, none⟩ = some (.int .i64 (m : Int)) := (blk_cell P.out.bx 4).trans rfl
              have x_5 : (z2).cell? ⟨b, 5, none⟩ = some (.slice A2 L c2) := (blk_cell P.out.bx 5).trans rfl
              have x_6 : (z2).cell? ⟨b, 6, none⟩ = some (.int .i64 (m : Int)) := (blk_cell P.out.bx 6).trans rfl
              have x_7 : (z2).cell? ⟨b, 7, none⟩ = some (.slice A3 L c3) := (blk_cell P.out.bx 7).trans rfl
              go_wp2_with (go_at_call 52; have P1 := P.out; have h_ := PB.vivariumref02_bit.calls (m : Int) A3 c3 X3 y true z2 (Kd.C_below HC3.out P1.be) HL3.out HB3w.out; rw [HX3.out] at h_; (with_reducible refine h_.mono ?_); clear h_; rintro er_ z3 ⟨rfl, hb⟩; have P2 := P1.on hb; have HV2 := Aside0.mk (pw_own_below HV.out hb); clear hb P P1 HV x_0 x_1 x_2 x_3 x_4 x_5 x_6 x_7; have P := Aside0.mk P2; have HV := HV2; clear P2 HV2)
              rw [rounds_succ]
              obtain ⟨g, e_⟩ := own_some' HV.out (by omega)
              subst e_
              have bc_ : z3.cell? ⟨g, y.toNat, none⟩ = some (.bool false) := own_cell HV.out y.toNat _ (by rw [bools, List.getElem?_map, RefPlain.doneTo_get _ _ (by omega)]; simp)
              have bf_ := own_free HV.out y.toNat
              go_wp2
              go_roundg (m - (y + 1).toNat)
              case measure => go_light; have := HY.out; omega
              case rel =>
                go_light
                refine ⟨y + 1, by have hw : wrap64 (y + 1) = y + 1 := (by unfold wrap64; omega); first | rfl | (rw [hw]; done) | (simp [hw]; done), ⟨by omega, by omega, by omega⟩, ?_⟩
                exact leaf P.out HV.out (by omega) (by omega) 8 rfl (by unfold says; rw [HB0v.out, HB1v.out, HB2v.out, HB3v.out]; rfl)
            | false =>
              rw [rounds_succ]
              have x_0 : (z2).cell? ⟨b, 0, none⟩ = some (.int .i64 (m : Int)) := (blk_cell P.out.bx 0).trans rfl
              have x_1 : (z2).cell? ⟨b, 1, none⟩ = some (.slice A0 L c0) := (blk_cell P.out.bx 1).trans rfl
              have x_2 : (z2).cell? ⟨b, 2, none⟩ = some (.int .i64 (m : Int)) := (blk_cell P.out.bx 2).trans rfl
              have x_3 : (z2).cell? ⟨b, 3, none⟩ = some (.slice A1 L c1) := (blk_cell P.out.bx 3).trans rfl
              have x_4 : (z2).cell? ⟨b, 4, none⟩ = some (.int .i64 (m : Int)) := (blk_cell P.out.bx 4).trans rfl
              have x_5 : (z2).cell? ⟨b, 5, none⟩ = some (.slice A2 L c2) := (blk_cell P.out.bx 5).trans rfl
              have x_6 : (z2).cell? ⟨b, 6, none⟩ = some (.int .i64 (m : Int)) := (blk_cell P.out.bx 6).trans rfl
              have x_7 : (z2).cell? ⟨b, 7, none⟩ = some (.slice A3 L c3) := (blk_cell P.out.bx 7).trans rfl
              go_wp2_with (go_at_call 52; have P1 := P.out; have h_ := PB.vivariumref02_bit.calls (m : Int) A3 c3 X3 y false z2 (Kd.C_below HC3.out P1.be) HL3.out HB3w.out; rw [HX3.out] at h_; (with_reducible refine h_.mono ?_); clear h_; rintro er_ z3 ⟨rfl, hb⟩; have P2 := P1.on hb; have HV2 := Aside0.mk (pw_own_below HV.out hb); clear hb P P1 HV x_0 x_1 x_2 x_3 x_4 x_5 x_6 x_7; have P := Aside0.mk P2; have HV := HV2; clear P2 HV2)
              rw [rounds_succ]
              obtain ⟨g, e_⟩ := own_some' HV.out (by omega)
              subst e_
              have bc_ : z3.cell? ⟨g, y.toNat, none⟩ = some (.bool false) := own_cell HV.out y.toNat _ (by rw [bools, List.getElem?_map, RefPlain.doneTo_get _ _ (by omega)]; simp)
              have bf_ := own_free HV.out y.toNat
              go_wp2
              go_roundg (m - (y + 1).toNat)
              case measure => go_light; have := HY.out; omega
              case rel =>
                go_light
                refine ⟨y + 1, by have hw : wrap64 (y + 1) = y + 1 := (by unfold wrap64; omega); first | rfl | (rw [hw]; done) | (simp [hw]; done), ⟨by omega, by omega, by omega⟩, ?_⟩
                exact leaf P.out HV.out (by omega) (by omega) 0 rfl (by unfold says; rw [HB0v.out, HB1v.out, HB2v.out, HB3v.out]; rfl)
    · have hy : y = m := by have := HY.out; omega
      have h2 := HV.out
      rw [hy, Int.toNat_natCast] at h2
      clear HV
      have HV := Aside0.mk h2
      clear h2
      subst hy
      have z0_ := (blk_cell P.out.rx 0).trans (show ((#[Value.int .i64 0, Value.slice none 0 0] : Array Value)[0]?) = some (.int .i64 0) from rfl); have z1_ := (blk_cell P.out.rx 1).trans (show ((#[Value.int .i64 0, Value.slice none 0 0] : Array Value)[1]?) = some (.slice none 0 0) from rfl); have f0_ := blk_frozen P.out.rx 0; have f1_ := blk_frozen P.out.rx 1
      go_wp2_with (go_at_call 48; have P1 := P.out; have h_ := PB.vivariumref02_Row.calls k A_v c_v _ (m : Int) V wr (RefCount.bit_C' (RefPlain.doneTo_len _ _ _ _) HV.out) (by rw [RefPlain.doneTo_len]; exact own_le HV.out) HVV.out; rw [RefPlain.doneTo_len] at h_; (with_reducible refine h_.mono ?_); clear h_; rintro er_ u ⟨t_, rfl, hR, hb⟩; obtain ⟨Ao, co, e_, -, -⟩ := Kd.R_reads hR; subst e_; have how_ : u.ownsRow wr.heap.size 22 1 (.slice Ao V.length co) V.length (nums .u64 V) := Kd.own_of_R hR; have P2 := P1.on hb; have HOW := Aside0.mk (own_less how_ P1.be.size); clear how_ hb hR P P1 HV z0_ z1_ f0_ f1_; have P := Aside0.mk P2; clear P2; have z0_ := (blk_cell P.out.rx 0).trans (show ((#[Value.int .i64 0, Value.slice none 0 0] : Array Value)[0]?) = some (.int .i64 0) from rfl); have z1_ := (blk_cell P.out.rx 1).trans (show ((#[Value.int .i64 0, Value.slice none 0 0] : Array Value)[1]?) = some (.slice none 0 0) from rfl); have f0_ := blk_frozen P.out.rx 0; have f1_ := blk_frozen P.out.rx 1)
      have hrx := P.out.rx
      exact bodyPost_ret (results_ct rfl _ _ r 31 #[.int .i64 (m : Int), .slice Ao V.length co] (0, 0) _ rfl (blk_put (cs := #[.int .i64 (m : Int), .slice none 0 0]) (blk_put hrx 0 _ rfl) 1 _ rfl) hu rfl (by kernel_rfl)) rfl ⟨_, rfl, own_set_other (own_set_other HOW.out hrx (by decide)) (blk_put (cs' := #[.int .i64 (m : Int), .slice none 0 0]) hrx 0 _ rfl) (by decide), below_set (below_set P.out.be P.out.re) P.out.re⟩
end Go.Proofs.Ytlghmadoogblcaa.RefIs
end
section
namespace Go.Proofs.Ytlghmadoogblcaa.IsPlain
open Go Go.RowKit Go.Proofs.Ytlghmadoogblcaa.PW Go.Proofs.YtlghmadoogblcaaW.PrintWords Go.Proofs.YtlghmadoogblcaaW.PrintLast Go.Proofs.YtlghmadoogblcaaW.PrintMore Go.Proofs.Ytlghmadoogblcaa.Bits Go.Proofs.Ytlghmadoogblcaa.Rowp Go.Proofs.Ytlghmadoogblcaa.RefPlain Go.Proofs.Ytlghmadoogblcaa.Rows4 Go.Proofs.Ytlghmadoogblcaa.CountPlain
set_option maxRecDepth 100000
set_option linter.unusedVariables false
theorem bits_andNot_u64_nat (a b : Nat) (ha : a < 18446744073709551616) (hb : b < 18446744073709551616) : Go.bits .andNot .u64 (a : Int) (b : Int) = ((a &&& (b ^^^ ones) : Nat) : Int) := by
  have e1 : BitVec.ofInt 64 (a : Int) = BitVec.ofNat 64 a := BitVec.ofInt_natCast ..
  have e2 : ~~~ BitVec.ofInt 64 (b : Int) = BitVec.ofNat 64 (b ^^^ ones) := by
    rw [BitVec.ofInt_natCast]
    ext i hi
    simp only [BitVec.getElem_not]
    simp only [← BitVec.getLsbD_eq_getElem, BitVec.getLsbD_ofNat, hi, decide_true, Bool.true_and, Nat.testBit_xor, ones_bit, Bool.bne_true]
  show IntKind.u64.wrap ((BitVec.ofInt 64 (a : Int) &&& ~~~ BitVec.ofInt 64 (b : Int)).toNat : Int) = _
  rw [e1, e2, BitVec.toNat_and, BitVec.toNat_ofNat, BitVec.toNat_ofNat, Nat.mod_eq_of_lt (by omega), Nat.mod_eq_of_lt (by have := bits_xor_n b ones hb (by decide); omega)]
  exact wrapU_small _ (bits_and_n _ _ ha (bits_xor_n b ones hb (by decide)))
def joinW (on : Bool) (a w : Nat) : Nat := if on then a &&& w else a &&& (w ^^^ ones)
theorem joinW_lt (on : Bool) (a w : Nat) (ha : a < 18446744073709551616) (hw : w < 18446744073709551616) : joinW on a w < 18446744073709551616 := by
  unfold joinW
  split
  · exact bits_and_n _ _ ha hw
  · exact bits_and_n _ _ ha (bits_xor_n w ones hw (by decide))
theorem joinW_bits (on : Bool) (a w : Nat) (ha : a < 18446744073709551616) (hw : w < 18446744073709551616) : Go.bits (if on then .and else .andNot) .u64 (a : Int) (w : Int) = (joinW on a w : Int) := by
  cases on with
  | true => exact bits_and_u64_nat a w ha hw
  | false => exact bits_andNot_u64_nat a w ha hw
theorem isTo_row {L : Nat} {A W : Nat → Nat} (on : Bool) (hA : ∀ t, t < L → A t < 18446744073709551616) (hW : ∀ t, t < L → W t < 18446744073709551616) : ∀ x, x ≤ L → IsWalk.isTo on (rowOf L A) (rowOf L W) x = rowOf L (fun t => if t < x then joinW on (A t) (W t) else A t)
  | 0, _ => rowOf_congr (fun t _ => by rw [if_neg (by omega)])
  | x + 1, hx => by
    have hx' : x < L := by omega
    show (IsWalk.isTo on (rowOf L A) (rowOf L W) x).set x (Go.bits (if on then .and else .andNot) .u64 ((IsWalk.isTo on (rowOf L A) (rowOf L W) x).getD x 0) ((rowOf L W).getD x 0)) = _
    rw [isTo_row on hA hW x (by omega), rowOf_getD _ _ _ hx', rowOf_getD _ _ _ hx', if_neg (Nat.lt_irrefl x), joinW_bits _ _ _ (hA x hx') (hW x hx'), rowOf_put]
    refine rowOf_congr (fun t ht => ?_)
    by_cases e : t = x
    · subst e
      rw [if_pos rfl, if_pos (by omega)]
    · rw [if_neg e]
      by_cases h2 : t < x
      · rw [if_pos h2, if_pos (by omega)]
      · rw [if_neg h2, if_neg (by omega)]
theorem isTo_all {L : Nat} {A W : Nat → Nat} (on : Bool) (hA : ∀ t, t < L → A t < 18446744073709551616) (hW : ∀ t, t < L → W t < 18446744073709551616) : IsWalk.isTo on (rowOf L A) (rowOf L W) L = rowOf L (fun t => joinW on (A t) (W t)) := by
  rw [isTo_row on hA hW L (Nat.le_refl _)]
  exact rowOf_congr (fun t ht => by rw [if_pos ht])
theorem joinW_bit (on : Bool) (A W : Nat → Nat) (i : Nat) : bitAt (fun t => joinW on (A t) (W t)) i = (bitAt A i && (bitAt W i == on)) := by
  unfold bitAt joinW
  cases on with
  | true => simp
  | false =>
    simp only [Bool.false_eq_true, if_false, Nat.testBit_and, Nat.testBit_xor, ones_bit, decide_eq_true (Nat.mod_lt i (by decide : 0 < 64))]
    cases (W (i / 64)).testBit (i % 64) <;> simp
theorem says_is (n : Int) (h0 : 0 ≤ n) (h15 : n ≤ 15) (b0 b1 b2 b3 : Bool) :
    decide (((if b0 then 1 else 0) + (if b1 then 2 else 0) + (if b2 then 4 else 0) + (if b3 then 8 else 0) : Int) = n) =
      ((((b0 == (Go.bits .and .i64 n 1 == 1)) && (b1 == (Go.bits .and .i64 (n / 2) 1 == 1))) && (b2 == (Go.bits .and .i64 (n / 4) 1 == 1))) && (b3 == (Go.bits .and .i64 (n / 8) 1 == 1))) := by
  have key : ∀ (q : Fin 16) (b0 b1 b2 b3 : Bool), decide (((if b0 then 1 else 0) + (if b1 then 2 else 0) + (if b2 then 4 else 0) + (if b3 then 8 else 0) : Int) = (q.val : Int)) =
      ((((b0 == (Go.bits .and .i64 (q.val : Int) 1 == 1)) && (b1 == (Go.bits .and .i64 ((q.val : Int) / 2) 1 == 1))) && (b2 == (Go.bits .and .i64 ((q.val : Int) / 4) 1 == 1))) && (b3 == (Go.bits .and .i64 ((q.val : Int) / 8) 1 == 1))) := by decide +kernel
  have := key ⟨n.toNat, by omega⟩ b0 b1 b2 b3
  simp only [Int.toNat_of_nonneg h0] at this
  exact this
def Told (F : FuncId) (n0 n1 n2 n3 : Int) (X0 X1 X2 X3 : List Int) (n m : Int) (Y : List Int) (er : Int) : Prop := ∀ (A0 A1 A2 A3 : Option Addr) (c0 c1 c2 c3 : Nat) (w : World),
  Kd.C (Kd.int .u64) w A0 X0.length X0 → X0.length ≤ c0 → Kd.C (Kd.int .u64) w A1 X1.length X1 → X1.length ≤ c1 → Kd.C (Kd.int .u64) w A2 X2.length X2 → X2.length ≤ c2 → Kd.C (Kd.int .u64) w A3 X3.length X3 → X3.length ≤ c3 →
  Calls Try.prog F #[.agg #[.int .i64 n0, .slice A0 X0.length c0, .int .i64 n1, .slice A1 X1.length c1, .int .i64 n2, .slice A2 X2.length c2, .int .i64 n3, .slice A3 X3.length c3], .int .i64 n] w
    fun e w' => ∃ v, e = .returned (.tuple #[.agg #[.int .i64 m, v], .int .i64 er]) ∧ w'.ownsRow w.heap.size 22 1 v Y.length (nums .u64 Y) ∧ Below w.heap.size w w'
end Go.Proofs.Ytlghmadoogblcaa.IsPlain
end
section
namespace Go.Proofs.Ytlghmadoogblcaa.EachPlain
open Go Go.RowKit Go.Proofs.Ytlghmadoogblcaa.PW Go.Proofs.YtlghmadoogblcaaW.PrintWords Go.Proofs.YtlghmadoogblcaaW.PrintLast Go.Proofs.YtlghmadoogblcaaW.PrintMore Go.Proofs.Ytlghmadoogblcaa.Bits Go.Proofs.Ytlghmadoogblcaa.Rowp Go.Proofs.Ytlghmadoogblcaa.RefPlain Go.Proofs.Ytlghmadoogblcaa.Rows4 Go.Proofs.Ytlghmadoogblcaa.CountPlain Go.Proofs.Ytlghmadoogblcaa.IsPlain
set_option maxRecDepth 100000
set_option linter.unusedVariables false
def RowsOf (l : List S31) (m : Nat) (bt : Nat → Nat → Bool) : Prop := ∀ j, j < l.length → ∃ W, l.getD j z31 = ⟨(m : Int), rowOf (nw m) W⟩ ∧ Rowp.Good m W ∧ ∀ i, i < m → bitAt W i = bt j i
theorem cnt_congr {b1 b2 : Nat → Nat → Bool} {i : Nat} : ∀ n, (∀ j, j < n → b1 j i = b2 j i) → cntTo b1 i n = cntTo b2 i n
  | 0, _ => rfl
  | n + 1, h => by
    show cntTo b1 i n + _ = cntTo b2 i n + _
    rw [cnt_congr n (fun j hj => h j (by omega)), h n (by omega)]
theorem count_told (l : List S31) (m : Nat) (bt : Nat → Nat → Bool) (hm : m ≤ 65538) (h15 : l.length ≤ 15) (h0 : l.length = 0 → m = 0) (h : RowsOf l m bt) :
    ∃ A B C D : Nat → Nat, Rowp.Good m A ∧ Rowp.Good m B ∧ Rowp.Good m C ∧ Rowp.Good m D ∧ (∀ i, i < m → bitAt A i = dg 0 (cntTo bt i l.length) ∧ bitAt B i = dg 1 (cntTo bt i l.length) ∧ bitAt C i = dg 2 (cntTo bt i l.length) ∧ bitAt D i = dg 3 (cntTo bt i l.length)) ∧
      CountPlain.Told 33 l (m : Int) ⟨rowOf (nw m) A, rowOf (nw m) B, rowOf (nw m) C, rowOf (nw m) D⟩ 0 := by
  have hx : ∀ j, ∃ W : Nat → Nat, j < l.length → l.getD j z31 = ⟨(m : Int), rowOf (nw m) W⟩ ∧ Rowp.Good m W ∧ ∀ i, i < m → bitAt W i = bt j i := by
    intro j
    by_cases hj : j < l.length
    · obtain ⟨W, hW⟩ := h j hj
      exact ⟨W, fun _ => hW⟩
    · exact ⟨fun _ => 0, fun h => absurd h hj⟩
  obtain ⟨Wf, hWf⟩ : ∃ Wf : Nat → Nat → Nat, ∀ j, j < l.length → l.getD j z31 = ⟨(m : Int), rowOf (nw m) (Wf j)⟩ ∧ Rowp.Good m (Wf j) ∧ ∀ i, i < m → bitAt (Wf j) i = bt j i := ⟨fun j => (hx j).choose, fun j => (hx j).choose_spec⟩
  have hall : ∀ j, j < l.length → l.getD j z31 = ⟨(m : Int), rowOf (nw m) (Wf j)⟩ ∧ Rowp.Good m (Wf j) := fun j hj => ⟨(hWf j hj).1, (hWf j hj).2.1⟩
  have hu : ∀ j, j < l.length → U64 (l.getD j z31).f1 := by
    intro j hj
    rw [(hall j hj).1]
    intro v hv
    obtain ⟨i, hi, rfl⟩ := List.mem_map.1 hv
    have := (hall j hj).2.lt i (List.mem_range.1 hi)
    omega
  obtain ⟨k, hk⟩ : ∃ k, k = 4000000 := ⟨_, rfl⟩
  obtain ⟨e, f1, f2, h5⟩ := fits_agree l (by omega) hu k (by omega)
  have he : e = 0 := by
    have v1 : ∀ j, 0 ≤ j → j < l.length → RowOk (l.getD j z31) := fun j _ hj => ⟨m, Wf j, (hall j hj).1, (hall j hj).2⟩
    unfold words_fits.f at f1
    rcases fits_l0 l (by omega) hu l.length k 0 0 rfl (by omega) (by omega) with ⟨_, k1, hk1, e1⟩ | ⟨h1, _⟩
    · rcases fits_l1 l (by omega) l.length k1 0 0 rfl (by omega) (by omega) with ⟨_, b⟩ | ⟨a, _⟩
      · rw [e1, b] at f1
        exact (Option.some.inj f1).symm
      · refine absurd (fun j _ hj => ?_) a
        rw [(hall j hj).1, (hall 0 (by omega)).1]
    · exact absurd v1 h1
  subst he
  have hL := nw_le hm
  obtain ⟨A, B, C, D, hq, hlt, hb⟩ := rows_is h15 hall l.length (Nat.le_refl _)
  have good : ∀ (k : Nat) (V : Nat → Nat), (∀ t, t < nw m → V t < 18446744073709551616) → (∀ i, i < 64 * nw m → bitAt V i = dg k (cntTo (fun j i => bitAt (Wf j) i) i l.length)) → Rowp.Good m V := by
    intro k V h1 h2
    refine good_of_bits hm h1 (fun i hi hj => ?_)
    rw [h2 i hj, cnt_high (fun j hj => (hall j hj).2) i hi hj l.length (Nat.le_refl _)]
    simp [dg]
  have hn := n_le m
  refine ⟨A, B, C, D, good 0 A (fun t ht => (hlt t ht).1) (fun i hi => (hb i hi).1), good 1 B (fun t ht => (hlt t ht).2.1) (fun i hi => (hb i hi).2.1), good 2 C (fun t ht => (hlt t ht).2.2.1) (fun i hi => (hb i hi).2.2.1), good 3 D (fun t ht => (hlt t ht).2.2.2) (fun i hi => (hb i hi).2.2.2), fun i hi => ?_, ?_⟩
  · have e := cnt_congr (i := i) (b1 := fun j i => bitAt (Wf j) i) (b2 := bt) l.length (fun j hj => (hWf j hj).2.2 i hi)
    rw [← e]
    exact hb i (by omega)
  · intro A0 c0 w hr hc
    by_cases hl : l.length = 0
    · obtain rfl : l = [] := List.eq_nil_of_length_eq_zero hl
      obtain rfl := h0 hl
      have b0 : words_blank.f 0 = some (0, []) := by
        have := blank_spec 0 (by omega)
        simpa [nw] using this
      exact CountWalk.count_none k A0 c0 w f1 b0
    · have n0 : (l.getD 0 z31).f0 = (m : Int) := by rw [(hall 0 (by omega)).1]
      have h := CountWalk.count_rows k A0 c0 l (m : Int) (nw m) w hr hc h15 (by omega) f1 (fun j hj => by rw [(hall j hj).1]; exact rowOf_len _ _) n0 (blank_spec m hm) (by omega)
      rw [hq] at h
      exact h
theorem is_told (m : Nat) (hm : m ≤ 65538) (A B C D : Nat → Nat) (ga : Rowp.Good m A) (gb : Rowp.Good m B) (gc : Rowp.Good m C) (gd : Rowp.Good m D) (n : Int) (h0 : 0 ≤ n) (h15 : n ≤ 15) :
    ∃ V, Rowp.Good m V ∧ (∀ i, i < m → bitAt V i = decide (RefIs.says (bitAt A) (bitAt B) (bitAt C) (bitAt D) i = n)) ∧
      IsPlain.Told 36 (m : Int) (m : Int) (m : Int) (m : Int) (rowOf (nw m) A) (rowOf (nw m) B) (rowOf (nw m) C) (rowOf (nw m) D) n (m : Int) (rowOf (nw m) V) 0 := by
  have u : ∀ (W : Nat → Nat), Rowp.Good m W → U64 (rowOf (nw m) W) := by
    intro W g v hv
    obtain ⟨i, hi, rfl⟩ := List.mem_map.1 hv
    have := g.lt i (List.mem_range.1 hi)
    omega
  have hL := nw_le hm
  obtain ⟨k, hk⟩ : ∃ k, k = 4000000 := ⟨_, rfl⟩
  have gz := good_not (good_zero m hm)
  obtain ⟨N, hN⟩ : ∃ N, notW m (fun _ => 0) = N := ⟨_, rfl⟩
  have hnot := not_spec (good_zero m hm) k (by omega)
  have hnb : ∀ i, i < m → bitAt N i = true := by
    intro i hi
    rw [← hN, bitAt_not _ i hi]
    simp [bitAt]
  rw [hN] at gz hnot
  have f1 : words_fits.f k [⟨(m : Int), rowOf (nw m) A⟩, ⟨(m : Int), rowOf (nw m) B⟩, ⟨(m : Int), rowOf (nw m) C⟩, ⟨(m : Int), rowOf (nw m) D⟩] = some 0 := by
    have hu : ∀ j, j < ([⟨(m : Int), rowOf (nw m) A⟩, ⟨(m : Int), rowOf (nw m) B⟩, ⟨(m : Int), rowOf (nw m) C⟩, ⟨(m : Int), rowOf (nw m) D⟩] : List S31).length → U64 (([⟨(m : Int), rowOf (nw m) A⟩, ⟨(m : Int), rowOf (nw m) B⟩, ⟨(m : Int), rowOf (nw m) C⟩, ⟨(m : Int), rowOf (nw m) D⟩] : List S31).getD j z31).f1 := by
      intro j hj
      match j, hj with
      | 0, _ => exact u A ga
      | 1, _ => exact u B gb
      | 2, _ => exact u C gc
      | 3, _ => exact u D gd
      | j + 4, hj => simp at hj; omega
    have ok : ∀ j, 0 ≤ j → j < ([⟨(m : Int), rowOf (nw m) A⟩, ⟨(m : Int), rowOf (nw m) B⟩, ⟨(m : Int), rowOf (nw m) C⟩, ⟨(m : Int), rowOf (nw m) D⟩] : List S31).length → RowOk (([⟨(m : Int), rowOf (nw m) A⟩, ⟨(m : Int), rowOf (nw m) B⟩, ⟨(m : Int), rowOf (nw m) C⟩, ⟨(m : Int), rowOf (nw m) D⟩] : List S31).getD j z31) := by
      intro j _ hj
      match j, hj with
      | 0, _ => exact ⟨m, A, rfl, ga⟩
      | 1, _ => exact ⟨m, B, rfl, gb⟩
      | 2, _ => exact ⟨m, C, rfl, gc⟩
      | 3, _ => exact ⟨m, D, rfl, gd⟩
      | j + 4, hj => simp at hj; omega
    have one : ∀ j, 0 ≤ j → j < ([⟨(m : Int), rowOf (nw m) A⟩, ⟨(m : Int), rowOf (nw m) B⟩, ⟨(m : Int), rowOf (nw m) C⟩, ⟨(m : Int), rowOf (nw m) D⟩] : List S31).length → (([⟨(m : Int), rowOf (nw m) A⟩, ⟨(m : Int), rowOf (nw m) B⟩, ⟨(m : Int), rowOf (nw m) C⟩, ⟨(m : Int), rowOf (nw m) D⟩] : List S31).getD j z31).f0 = (([⟨(m : Int), rowOf (nw m) A⟩, ⟨(m : Int), rowOf (nw m) B⟩, ⟨(m : Int), rowOf (nw m) C⟩, ⟨(m : Int), rowOf (nw m) D⟩] : List S31).getD 0 z31).f0 := by
      intro j _ hj
      match j, hj with
      | 0, _ => rfl
      | 1, _ => rfl
      | 2, _ => rfl
      | 3, _ => rfl
      | j + 4, hj => simp at hj; omega
    have l4 : ([⟨(m : Int), rowOf (nw m) A⟩, ⟨(m : Int), rowOf (nw m) B⟩, ⟨(m : Int), rowOf (nw m) C⟩, ⟨(m : Int), rowOf (nw m) D⟩] : List S31).length = 4 := rfl
    generalize ([⟨(m : Int), rowOf (nw m) A⟩, ⟨(m : Int), rowOf (nw m) B⟩, ⟨(m : Int), rowOf (nw m) C⟩, ⟨(m : Int), rowOf (nw m) D⟩] : List S31) = L4 at *
    unfold words_fits.f
    rcases fits_l0 L4 (by omega) hu L4.length k 0 0 rfl (by omega) (by omega) with ⟨_, k1, hk1, e1⟩ | ⟨h1, _⟩
    · rcases fits_l1 L4 (by omega) L4.length k1 0 0 rfl (by omega) (by omega) with ⟨_, b⟩ | ⟨a, _⟩
      · rw [e1, b]
      · exact absurd one a
    · exact absurd ok h1
  obtain ⟨o0, ho0⟩ : ∃ b, (Go.bits .and .i64 n 1 == 1) = b := ⟨_, rfl⟩
  obtain ⟨o1, ho1⟩ : ∃ b, (Go.bits .and .i64 (n / 2) 1 == 1) = b := ⟨_, rfl⟩
  obtain ⟨o2, ho2⟩ : ∃ b, (Go.bits .and .i64 (n / 4) 1 == 1) = b := ⟨_, rfl⟩
  obtain ⟨o3, ho3⟩ : ∃ b, (Go.bits .and .i64 (n / 8) 1 == 1) = b := ⟨_, rfl⟩
  have t0 : ∀ t, t < nw m → joinW o0 (N t) (A t) < 18446744073709551616 := fun t ht => joinW_lt _ _ _ (gz.lt t ht) (ga.lt t ht)
  have t1 : ∀ t, t < nw m → joinW o1 (joinW o0 (N t) (A t)) (B t) < 18446744073709551616 := fun t ht => joinW_lt _ _ _ (t0 t ht) (gb.lt t ht)
  have t2 : ∀ t, t < nw m → joinW o2 (joinW o1 (joinW o0 (N t) (A t)) (B t)) (C t) < 18446744073709551616 := fun t ht => joinW_lt _ _ _ (t1 t ht) (gc.lt t ht)
  have t3 : ∀ t, t < nw m → joinW o3 (joinW o2 (joinW o1 (joinW o0 (N t) (A t)) (B t)) (C t)) (D t) < 18446744073709551616 := fun t ht => joinW_lt _ _ _ (t2 t ht) (gd.lt t ht)
  have efin : IsWalk.isTo o3 (IsWalk.isTo o2 (IsWalk.isTo o1 (IsWalk.isTo o0 (rowOf (nw m) N) (rowOf (nw m) A) (nw m)) (rowOf (nw m) B) (nw m)) (rowOf (nw m) C) (nw m)) (rowOf (nw m) D) (nw m) = rowOf (nw m) (fun t => joinW o3 (joinW o2 (joinW o1 (joinW o0 (N t) (A t)) (B t)) (C t)) (D t)) := by
    rw [isTo_all o0 gz.lt ga.lt, isTo_all o1 t0 gb.lt, isTo_all o2 t1 gc.lt, isTo_all o3 t2 gd.lt]
  have bfin : ∀ i, bitAt (fun t => joinW o3 (joinW o2 (joinW o1 (joinW o0 (N t) (A t)) (B t)) (C t)) (D t)) i = ((((bitAt N i && (bitAt A i == o0)) && (bitAt B i == o1)) && (bitAt C i == o2)) && (bitAt D i == o3)) := by
    intro i
    rw [joinW_bit o3 (fun t => joinW o2 (joinW o1 (joinW o0 (N t) (A t)) (B t)) (C t)), joinW_bit o2 (fun t => joinW o1 (joinW o0 (N t) (A t)) (B t)), joinW_bit o1 (fun t => joinW o0 (N t) (A t)), joinW_bit o0 N]
  have gfin : Rowp.Good m (fun t => joinW o3 (joinW o2 (joinW o1 (joinW o0 (N t) (A t)) (B t)) (C t)) (D t)) := by
    refine good_of_bits hm t3 (fun i a b => ?_)
    rw [bfin i, good_high gz i a b]
    simp
  refine ⟨_, gfin, fun i hi => ?_, fun A0 A1 A2 A3 c0 c1 c2 c3 w a0 b0 a1 b1 a2 b2 a3 b3 => ?_⟩
  · rw [bfin i, hnb i hi, Bool.true_and, ← ho0, ← ho1, ← ho2, ← ho3]
    exact (says_is n h0 h15 _ _ _ _).symm
  · have h := IsWalk.is_ok k (m : Int) n A0 A1 A2 A3 _ _ _ _ (rowOf (nw m) N) (rowOf (nw m) (fun _ => 0)) c0 c1 c2 c3 (nw m) o0 o1 o2 o3 w a0 b0 a1 b1 a2 b2 a3 b3 f1 h0 h15 (by omega) (rowOf_len _ _) (rowOf_len _ _) (rowOf_len _ _) (rowOf_len _ _) (rowOf_len _ _) ho0 ho1 ho2 ho3 (by rw [blank_spec m hm, rowOf_zero]) hnot
    rw [efin] at h
    rw [rowOf_len, rowOf_len, rowOf_len, rowOf_len]
    exact h
theorem says_cnt (c : Nat) (hc : c ≤ 15) (b0 b1 b2 b3 : Nat → Bool) (i : Nat) (h : b0 i = dg 0 c ∧ b1 i = dg 1 c ∧ b2 i = dg 2 c ∧ b3 i = dg 3 c) : RefIs.says b0 b1 b2 b3 i = (c : Int) := by
  unfold RefIs.says
  rw [h.1, h.2.1, h.2.2.1, h.2.2.2]
  have key : ∀ c : Fin 16, ((if dg 0 c.val then 1 else 0) + (if dg 1 c.val then 2 else 0) + (if dg 2 c.val then 4 else 0) + (if dg 3 c.val then 8 else 0) : Int) = (c.val : Int) := by decide
  exact key ⟨c, by omega⟩
end Go.Proofs.Ytlghmadoogblcaa.EachPlain
end
section
namespace Go.Proofs.Ytlghmadoogblcaa.EachWalk
open Go Go.RowKit Go.Proofs.YtlghmadoogblcaaW.PrintWords Go.Proofs.YtlghmadoogblcaaW.PrintLast Go.Proofs.YtlghmadoogblcaaW.PrintMore Go.Proofs.Ytlghmadoogblcaa.PW Go.Proofs.Ytlghmadoogblcaa.Book Go.Proofs.Ytlghmadoogblcaa.Lent Go.Proofs.Ytlghmadoogblcaa.Pile Go.Proofs.Ytlghmadoogblcaa.Rows4
set_option linter.unusedVariables false
set_option linter.unusedSimpArgs false
attribute [local go_sem] max2_int min2_int max_two min_two max_three min_three max_four min_four
theorem pw_own_below2 {w w1 : World} {base : Nat} {e : TypeId} {n : Nat} {v : Value} {xs : List Value} (h : w.ownsRow base e 2 v n xs) (hb : Below w.heap.size w w1) : w1.ownsRow base e 2 v n xs := own_move h (fun k hk => hb.block k (own_lt h k hk))
abbrev KB : Kd (List Bool) := Kd.slice 4 Kd.bool
def minTo (l : List (List Bool)) : Nat → Nat
  | 0 => 65538
  | i + 1 => min (minTo l i) (l.getD i []).length
theorem at_LB {w W : World} {A : Option Addr} {n : Nat} {xs : List (List Bool)} (h : Kd.C KB w A n xs) (hb : Below w.heap.size w W) (i : Int) (h0 : 0 ≤ i) (h1 : i < n) : ∃ ad A0 c0, A = some ad ∧ W.cell? (ad.add i.toNat) = some (.slice A0 (xs.getD i.toNat []).length c0) ∧ (xs.getD i.toNat []).length ≤ c0 ∧ Kd.C Kd.bool w A0 (xs.getD i.toNat []).length (xs.getD i.toNat []) := by
  obtain ⟨ad, c, e, _, hK, hc0⟩ := Kd.C_get h ([] : List Bool) i h0 h1
  have hc : ∀ j u, c[j]? = some u → w.cell? (ad.add (i.toNat * 1 + j)) = some u := hc0
  obtain ⟨A0, c0, rfl, l0, g0⟩ := hK
  have hq := hc 0 _ rfl
  rw [Nat.mul_one, Nat.add_zero] at hq
  exact ⟨ad, A0, c0, e, (hb.cell (CountWalk.cell_lt hq)).trans hq, l0, g0⟩
set_option maxHeartbeats 8000000 in
set_option maxRecDepth 100000 in
theorem core (k : Nat) (A0 : Option Addr) (c0 : Nat) (l : List (List Bool)) (lr : List S31) (m : Nat) (q : Q4) (w : World) (hR : Kd.C KB w A0 l.length l) (hc0 : l.length ≤ c0) (hm : l.length ≤ 17592186043904) (hk : 17592186043906 < k)
    (hal : vivariumlaw02_alive.f k = some true) (hmz : (if l.length = 0 then 0 else minTo l (min l.length 15)) = m) (hm2 : m ≤ 65538) (hlr : lr.length = min l.length 15)
    (hrows : ∀ j, j < min l.length 15 → m ≤ (l.getD j []).length ∧ words_Of.f k ((l.getD j []).take m) = some ((m : Int), (lr.getD j z31).f1, 0)) (hf0 : ∀ j, j < min l.length 15 → (lr.getD j z31).f0 = (m : Int))
    (cn : Nat → Nat) (hcn : ∀ i, i < m → cn i ≤ 15) (hcne : ∀ i, i < m → cn i = cntTo (fun j i => (l.getD j []).getD i false) i lr.length)
    (his : ∀ j : Int, 0 ≤ j → j < 16 → ∃ V, words_Valid.f (m : Int) V = some true ∧ (∀ i, i < m → words_Get.f (m : Int) V (i : Int) = some (decide ((cn i : Int) = j))) ∧ IsPlain.Told 36 (m : Int) (m : Int) (m : Int) (m : Int) q.a q.b q.c q.d j (m : Int) V 0)
    (tc : CountPlain.Told 33 lr (m : Int) q 0) :
    Calls Try.prog 12 #[.slice A0 l.length c0] w fun e w' => e = .returned (.bool true) ∧ Below w.heap.size w w' := by
  have HR := Aside0.mk hR; have HC0 := Aside0.mk hc0; have HM := Aside0.mk hm; have HK := Aside0.mk hk; have HA := Aside0.mk hal; have HMZ := Aside0.mk hmz; have HLRL := Aside0.mk hlr; have HROWS := Aside0.mk hrows; have HF0 := Aside0.mk hf0; have TC := Aside0.mk tc; have HCN := Aside0.mk hcn; have HCNE := Aside0.mk hcne; have HIS := Aside0.mk his
  have hu := Try.underlying31
  have hu4 := Try.underlying54
  have hur := Try.underlying38
  clear hR hk hal hmz hlr hrows tc hf0 hcn hcne his
  go_enter Try.func12, Try.ntmps12
  go_upto_block 0 with (go_at_call 13; have h_ := vivariumlaw02_alive.calls k true w rfl HA.out; (with_reducible refine h_.mono ?_); clear h_; rintro er_ v1 ⟨rfl, hb⟩; have HB := Aside0.mk hb; clear hb)
  go_cut [4] from 20 (fun s4 wr => ∃ mt : Nat, s4 = .int .i64 (mt : Int) ∧ Aside0 (minTo l (min l.length 15) = mt) ∧ Aside0 (Below w.heap.size w wr))
  case first =>
    go_wp2_with fail
    go_loopg [4, 5] (min l.length 15) (fun q_ s4 s5 wr => ∃ (y : Int) (mt : Nat), s5 = .int .i64 y ∧ s4 = .int .i64 (mt : Int) ∧ Aside0 (minTo l y.toNat = mt) ∧ Aside0 (0 ≤ y ∧ y ≤ (min l.length 15 : Nat) ∧ (q_ : Int) = (min l.length 15 : Nat) - y) ∧ Aside0 (Below w.heap.size w wr))
    case atStart => exact ⟨0, 65538, rfl, rfl, ⟨rfl⟩, ⟨by omega, by omega, by omega⟩, HB⟩
    case round =>
      clear HB
      obtain ⟨y, mt, rfl, rfl, HMT, HY, HB⟩ := hrel
      by_cases qy : y < (min l.length 15 : Nat)
      · have py : 0 ≤ y := HY.out.1
        have q1 : y < l.length := by omega
        have q2 : y < 15 := by omega
        obtain ⟨ad, A1, c1, e_, y0_, hle, -⟩ := at_LB HR.out HB.out y py q1
        subst e_
        obtain ⟨Ly, hLy⟩ : ∃ q, (l.getD y.toNat []).length = q := ⟨_, rfl⟩
        rw [hLy] at y0_ hle
        have HLY := Aside0.mk hLy; have HLE := Aside0.mk hle
        clear hLy hle
        go_wp2
        go_ways
        all_goals
          go_roundg ((min l.length 15) - (y + 1).toNat)
          case measure => go_light; have := HY.out; omega
          case rel =>
            go_light
            refine ⟨y + 1, _, by have hw : wrap64 (y + 1) = y + 1 := (by unfold wrap64; omega); first | rfl | (rw [hw]; done) | (simp [hw]; done), rfl, ⟨?_⟩, ⟨by omega, by omega, by omega⟩, HB⟩
            rw [show (y + 1).toNat = y.toNat + 1 by omega]
            show min (minTo l y.toNat) (l.getD y.toNat []).length = _
            rw [HMT.out, HLY.out]
            omega
      · have hy : y = (min l.length 15 : Nat) := by have := HY.out; omega
        subst hy
        rw [Int.toNat_natCast] at HMT
        go_wp2
        go_ways
        all_goals
          go_meet
          case rel => go_light; exact ⟨mt, rfl, HMT, HB⟩
    
  case rest =>
    obtain ⟨mt, rfl, HMT, HB2⟩ := hcut
    clear HB
    have HB := HB2
    clear HB2
    go_upto_if 40 with fail
    go_cut [4] from 20 (fun s4 wr => s4 = .int .i64 (m : Int) ∧ Aside0 (Below w.heap.size w wr))
    case first =>
      by_cases h0 : l.length = 0
      · have h0' : ((l.length : Int) == 0) = true := by simp [h0]
        go_wp2
        go_meet
        case rel =>
          go_light
          refine ⟨?_, HB⟩
          have h2 := HMZ.out
          rw [if_pos h0] at h2
          subst h2
          rfl
      · have h0' : ((l.length : Int) == 0) = false := beq_eq_false_iff_ne.2 (by omega)
        go_wp2
        go_meet
        case rel =>
          go_light
          refine ⟨?_, HB⟩
          have h2 := HMZ.out
          rw [if_neg h0, HMT.out] at h2
          subst h2
          rfl
    case rest =>
      obtain ⟨rfl, HB2⟩ := hcut
      clear HB HMT
      have HB := HB2
      clear HB2
      go_upto_block 2 with fail
      go_cut [6] from 20 (fun s6 wr => ∃ R : List (Value × List Int), Aside0 (Below w.heap.size w wr) ∧ Aside0 (Rws w.heap.size wr R) ∧ Aside0 (R.length = min l.length 15 ∧ ∀ i, i < min l.length 15 → (R.getD i (.bool false, [])).2 = (lr.getD i z31).f1) ∧ Aside0 (wr.ownsRow w.heap.size 31 2 s6 (min l.length 15) (rcells lr R (min l.length 15))))
      case first =>
        go_wp2_with fail
        go_loopg [6, 7] (min l.length 15) (fun q_ s6 s7 wr => ∃ (y : Int) (R : List (Value × List Int)), s7 = .int .i64 y ∧ Aside0 (0 ≤ y ∧ y ≤ (min l.length 15 : Nat) ∧ (q_ : Int) = (min l.length 15 : Nat) - y) ∧ Aside0 (Below w.heap.size w wr) ∧ Aside0 (Rws w.heap.size wr R) ∧ Aside0 (R.length = y.toNat ∧ ∀ i, i < y.toNat → (R.getD i (.bool false, [])).2 = (lr.getD i z31).f1) ∧ Aside0 (wr.ownsRow w.heap.size 31 2 s6 y.toNat (rcells lr R y.toNat)))
        case atStart => exact ⟨0, [], rfl, ⟨by omega, by omega, by omega⟩, HB, ⟨Rws.nil⟩, ⟨rfl, fun i h => absurd h (Nat.not_lt_zero _)⟩, ⟨own_nil _ _ _ _⟩⟩
        case round =>
          clear HB
          obtain ⟨y, R, rfl, HY, HB, HRW, HLR, HO⟩ := hrel
          by_cases qy : y < (min l.length 15 : Nat)
          · have py : 0 ≤ y := HY.out.1
            have q1 : y < l.length := by omega
            have q2 : y < 15 := by omega
            obtain ⟨ad, A1, c1, e_, y0_, hle, hCy⟩ := at_LB HR.out HB.out y py q1
            subst e_
            obtain ⟨hml, hof⟩ := HROWS.out y.toNat (by omega)
            have htl : ((l.getD y.toNat []).take m).length = m := by rw [List.length_take]; omega
            have HTK := Aside0.mk (Kd.C_take hCy (m := m) hml)
            have HTL := Aside0.mk htl
            obtain ⟨X, hX⟩ : ∃ q, (lr.getD y.toNat z31).f1 = q := ⟨_, rfl⟩
            rw [hX] at hof
            have HX := Aside0.mk hX
            clear hX
            have HOF := Aside0.mk hof
            have HLE := Aside0.mk hle
            obtain ⟨Ly, hLy⟩ : ∃ q, (l.getD y.toNat []).length = q := ⟨_, rfl⟩
            rw [hLy] at y0_ hle hml
            clear hLy hof htl hCy
            go_wp2_with (first
              | (go_at_call 18; have h_ := words_Of.calls k A1 c1 ((l.getD y.toNat []).take m) (m : Int) X 0 wr (Kd.C_below HTK.out HB.out) (by have := HLE.out; have := HTL.out; omega) HOF.out; rw [HTL.out] at h_; (with_reducible refine h_.mono ?_); clear h_; rintro er_ wo ⟨v_, rfl, hR, hb⟩; have hw_ := Kd.own_of_R hR; obtain ⟨A_v, c_v, e_⟩ := own_slice hw_; subst e_; have HR2 := Aside0.mk (HRW.out.snoc hb HB.out.size hw_); have HO2 := Aside0.mk (pw_own_below2 HO.out hb); have HB2 := Aside0.mk (below_then HB.out HB.out.size hb); clear HO HRW HB hR hb hw_ y0_; have HRW := HR2; have HO := HO2; have HB := HB2; clear HR2 HO2 HB2)
              | (at_builtin; refine print_append_cells (w0 := w) (W := (wo.alloc (.cells #[.int .i64 (m : Int), .slice A_v X.length c_v] 31))) w.heap.size rfl (.tmp 63) (.tmp 65) 38 31 (.agg #[.int .i64 0, .slice none 0 0]) 2 32 rfl Try.underlying38 (by kernel_rfl) rfl (by decide) (by decide) _ y.toNat (rcells lr R y.toNat) [.int .i64 (m : Int), .slice A_v X.length c_v] rfl (by first | rfl | (go_simp; done) | (simp [Act.eval]; done)) rfl (by intro u hu; simp at hu; rcases hu with rfl | rfl <;> rfl) (own_alloc HO.out _) (below_alloc HB.out _) (by have := HB.out.size; simp; omega) ?c1 ?_; (case c1 => go_light; omega); intro v1_ w1 ho_ hb_ hg_ hat_; have HOA := Aside0.mk (own_alloc HO.out (.cells #[.int .i64 (m : Int), .slice A_v X.length c_v] 31)); have HN := Aside0.mk ho_; have HR2 := Aside0.mk (rws_grown (HRW.out.on (below_alloc (Below.refl _ wo) (.cells #[.int .i64 (m : Int), .slice A_v X.length c_v] 31))) hg_ (fun k hk => own_typed HOA.out k hk)); have HB2 := Aside0.mk hb_; clear ho_ hb_ hg_ hat_ HO HOA HB HRW; have HRW := HR2; have HB := HB2; clear HR2 HB2))
            go_roundg ((min l.length 15) - (y + 1).toNat)
            case measure => go_light; have := HY.out; omega
            case rel =>
              go_light
              refine ⟨y + 1, R ++ [(.slice A_v X.length c_v, X)], by have hw : wrap64 (y + 1) = y + 1 := (by unfold wrap64; omega); first | rfl | (rw [hw]; done) | (simp [hw]; done), ⟨by omega, by omega, by omega⟩, HB, HRW, ⟨by rw [List.length_append, HLR.out.1]; simp; omega, fun i hi => ?_⟩, ⟨?_⟩⟩
              · by_cases e : i = y.toNat
                · subst e
                  rw [← HLR.out.1, getR_last, HLR.out.1, HX.out]
                · rw [getR_old _ _ _ (by rw [HLR.out.1]; omega)]
                  exact HLR.out.2 i (by omega)
              · have h2 := HN.out
                rw [show (y + 1).toNat = y.toNat + 1 by omega]
                have hg : (R ++ [(Value.slice A_v X.length c_v, X)]).getD y.toNat (.bool false, []) = (.slice A_v X.length c_v, X) := by rw [← HLR.out.1]; exact getR_last _ _
                have e1 : rcells lr (R ++ [(.slice A_v X.length c_v, X)]) (y.toNat + 1) = rcells lr R y.toNat ++ [.int .i64 (m : Int), .slice A_v X.length c_v] := by
                  show rcells lr (R ++ _) y.toNat ++ _ = _
                  rw [rcells_snoc lr R _ _ (by have := HLR.out.1; omega), HF0.out y.toNat (by omega), hg]
                rw [e1]
                exact h2
          · have hy : y = (min l.length 15 : Nat) := by have := HY.out; omega
            rw [hy, Int.toNat_natCast] at HLR HO
            subst hy
            go_wp2
            go_ways
            all_goals
              go_meet
              case rel => go_light; exact ⟨R, HB, HRW, HLR, HO⟩
        
      case rest =>
        obtain ⟨R, HB2, HRW, HLR, HO⟩ := hcut
        clear HB
        have HB := HB2
        clear HB2
        rw [← HLRL.out] at HO HLR
        obtain ⟨A_l, c_l, e_⟩ := own_slice HO.out
        subst e_
        have hcl := rcells_C HO.out rfl (by have := HLRL.out; omega) HRW.out (by have := HLR.out; omega) HLR.out.2
        have HCL := Aside0.mk hcl.1
        have HLE := Aside0.mk hcl.2
        clear hcl HO HRW HLR
        go_wp2_with (first
          | (go_at_call 33; have h_ := TC.out A_l c_l wc HCL.out HLE.out; (with_reducible refine h_.mono ?_); clear h_; rintro er_ wd ⟨v0, v1, v2, v3, rfl, hr, hb⟩; obtain ⟨Aa, ca, e_⟩ := own_slice (hr.own 0 _ rfl); (have e2_ : v0 = .slice Aa q.a.length ca := e_); clear e_; subst e2_; obtain ⟨Ab, cb, e_⟩ := own_slice (hr.own 1 _ rfl); (have e2_ : v1 = .slice Ab q.b.length cb := e_); clear e_; subst e2_; obtain ⟨Ac, cc, e_⟩ := own_slice (hr.own 2 _ rfl); (have e2_ : v2 = .slice Ac q.c.length cc := e_); clear e_; subst e2_; obtain ⟨Ad, cd, e_⟩ := own_slice (hr.own 3 _ rfl); (have e2_ : v3 = .slice Ad q.d.length cd := e_); clear e_; subst e2_; have HRR := Aside0.mk hr; have HBD := Aside0.mk hb; clear hr hb)
          | ((with_reducible refine gate_dst (N := 79) rfl ?_); refine Kd.R_make (Kd.int .i64) _ 3 rfl (N := 79) rfl 74 _ _ rfl (m : Int) rfl rfl Try.underlying74 (.int .i64 0) 8 (by kernel_rfl) rfl (by decide) (by omega) (0 : Int) (ok := fun _ => True) (okp := fun _ => True) rfl (fun _ hk => hk) trivial (by omega) (by omega) (Below.refl _ _) (Nat.le_refl _) ?_; intro v_ w2 hR hb hg_ hn_; clear hg_ hn_; rw [Int.toNat_natCast] at hR; have ho_ := own_less (base := w.heap.size) (Kd.own_of_R hR) (by have := HBD.out.size; have := HB.out.size; simp; omega); obtain ⟨A_s, c_s, e_, -, -⟩ := Kd.R_reads hR; rw [List.length_replicate] at e_; subst e_; rw [List.length_replicate, mp_zero] at ho_; have HO := Aside0.mk ho_; have P2 := ES.start HB.out HBD.out HRR.out hb; have P := Aside0.mk P2; clear hb hR ho_ P2 HBD HRR))
        go_loopg [13] 16 (fun q_ s13 wr => ∃ j : Int, s13 = .int .i64 j ∧ Aside0 (0 ≤ j ∧ j ≤ 16 ∧ (q_ : Int) = 16 - j) ∧ Aside0 (ES w wr wd.heap.size #[.int .i64 (m : Int), .slice Aa q.a.length ca, .int .i64 (m : Int), .slice Ab q.b.length cb, .int .i64 (m : Int), .slice Ac q.c.length cc, .int .i64 (m : Int), .slice Ad q.d.length cd] [(.slice Aa q.a.length ca, q.a), (.slice Ab q.b.length cb, q.b), (.slice Ac q.c.length cc, q.c), (.slice Ad q.d.length cd, q.d)]) ∧ Aside0 (wr.ownsRow w.heap.size 3 1 (.slice A_s m c_s) m (nums .i64 (mp m fun i => if (cn i : Int) < j then (1 + 100 * (cn i : Int)) else 0))))
        case atStart =>
          refine ⟨0, rfl, ⟨by omega, by omega, by omega⟩, P, ⟨?_⟩⟩
          have h2 := HO.out
          rw [mp_congr (g := fun i => if (cn i : Int) < 0 then (1 + 100 * (cn i : Int)) else 0)] at h2
          · exact h2
          · intro i hi
            rw [if_neg (by omega)]
        case round =>
          clear P HO
          obtain ⟨j, rfl, HJ, P, HO⟩ := hrel
          by_cases qj : j < 16
          · have pj : 0 ≤ j := HJ.out.1
            obtain ⟨V, hV, hG, hT⟩ := HIS.out j pj qj
            have HV := Aside0.mk hV; have HG := Aside0.mk hG; have HT := Aside0.mk hT
            clear hV hG hT
            have x_0 := (blk_cell P.out.bx 0).trans rfl; have x_1 := (blk_cell P.out.bx 1).trans rfl; have x_2 := (blk_cell P.out.bx 2).trans rfl; have x_3 := (blk_cell P.out.bx 3).trans rfl; have x_4 := (blk_cell P.out.bx 4).trans rfl; have x_5 := (blk_cell P.out.bx 5).trans rfl; have x_6 := (blk_cell P.out.bx 6).trans rfl; have x_7 := (blk_cell P.out.bx 7).trans rfl
            go_wp2_with (first
              | (go_at_call 36; have P1 := P.out; have h_ := HT.out Aa Ab Ac Ad ca cb cc cd wr (MakesWalk.Kd.own_C (P1.rows.own 0 _ rfl)) (own_le (P1.rows.own 0 _ rfl)) (MakesWalk.Kd.own_C (P1.rows.own 1 _ rfl)) (own_le (P1.rows.own 1 _ rfl)) (MakesWalk.Kd.own_C (P1.rows.own 2 _ rfl)) (own_le (P1.rows.own 2 _ rfl)) (MakesWalk.Kd.own_C (P1.rows.own 3 _ rfl)) (own_le (P1.rows.own 3 _ rfl)); (with_reducible refine h_.mono ?_); clear h_; rintro er_ wi ⟨v_, rfl, ho_, hb⟩; obtain ⟨A_v, c_v, e_⟩ := own_slice ho_; subst e_; have HOV := Aside0.mk ho_; have HBI := Aside0.mk hb; have HO2 := Aside0.mk (pw_own_below HO.out hb); clear ho_ hb HO P1 x_0 x_1 x_2 x_3 x_4 x_5 x_6 x_7; have HO := HO2; clear HO2)
              | (go_at_call 22; have h_ := words_Valid.calls (m : Int) A_v c_v V true (wi.alloc (.cells #[.int .i64 (m : Int), .slice A_v V.length c_v] 31)) (MakesWalk.Kd.own_C (own_alloc HOV.out _)) (own_le HOV.out) HV.out; (with_reducible refine h_.mono ?_); clear h_; rintro er_ wv ⟨rfl, hb⟩; have P2 := EI.start P.out HBI.out HOV.out hb; have HO2 := Aside0.mk (pw_own_below (own_alloc HO.out (.cells #[.int .i64 (m : Int), .slice A_v V.length c_v] 31)) hb); clear HO P HOV HBI hb; have P := Aside0.mk P2; have HO := HO2; clear P2 HO2))
            go_loopg [16] m (fun q2_ s16 wr => ∃ y : Int, s16 = .int .i64 y ∧ Aside0 (0 ≤ y ∧ y ≤ m ∧ (q2_ : Int) = m - y) ∧ Aside0 (EI w wr wd.heap.size #[.int .i64 (m : Int), .slice Aa q.a.length ca, .int .i64 (m : Int), .slice Ab q.b.length cb, .int .i64 (m : Int), .slice Ac q.c.length cc, .int .i64 (m : Int), .slice Ad q.d.length cd] [(.slice Aa q.a.length ca, q.a), (.slice Ab q.b.length cb, q.b), (.slice Ac q.c.length cc, q.c), (.slice Ad q.d.length cd, q.d)] wi.heap.size (m : Int) (.slice A_v V.length c_v) V) ∧ Aside0 (wr.ownsRow w.heap.size 3 1 (.slice A_s m c_s) m (nums .i64 (mp m fun i => if i < y.toNat then (if (cn i : Int) < j + 1 then (1 + 100 * (cn i : Int)) else 0) else (if (cn i : Int) < j then (1 + 100 * (cn i : Int)) else 0)))))
            case atStart => exact ⟨0, rfl, ⟨by omega, by omega, by omega⟩, P, HO⟩
            case round =>
              clear P HO
              obtain ⟨y, rfl, HY, P, HO⟩ := hrel
              have t0_ := P.out.t0
              have t1_ := P.out.t1
              by_cases qy : y < m
              · have py : 0 ≤ y := HY.out.1
                have hgy := HG.out y.toNat (by omega)
                rw [Int.toNat_of_nonneg py] at hgy
                have h15 := HCN.out y.toNat (by omega)
                obtain ⟨cv, hcv⟩ : ∃ c : Nat, cn y.toNat = c := ⟨_, rfl⟩
                rw [hcv] at hgy h15
                have HCV := Aside0.mk hcv
                obtain ⟨g, e_⟩ := own_some' HO.out (by omega)
                subst e_
                clear hcv
                by_cases hq : (cv : Int) = j
                · rw [decide_eq_true hq] at hgy
                  have HGY := Aside0.mk hgy
                  clear hgy
                  go_wp2_with (go_at_call 27; have P1 := P.out; have h_ := words_Get.calls (m : Int) A_v c_v V y true wr (MakesWalk.Kd.own_C P1.own) (own_le P1.own) HGY.out; (with_reducible refine h_.mono ?_); clear h_; rintro er_ wz ⟨rfl, hb⟩; have P2 := P1.on hb; have HO2 := Aside0.mk (pw_own_below HO.out hb); clear HO hb P1 P t0_ t1_; have P := Aside0.mk P2; clear P2; have sc_ : wz.cell? ⟨g, y.toNat, none⟩ = some (.int .i64 0) := (own_cell HO2.out y.toNat _ (by rw [nums, List.getElem?_map, mp_get _ (by omega)]; simp [HCV.out, hq])); have sf_ := own_free HO2.out y.toNat)
                  go_roundg (m - (y + 1).toNat)
                  case measure => go_light; have := HY.out; omega
                  case rel =>
                    go_light
                    refine ⟨y + 1, by have hw : wrap64 (y + 1) = y + 1 := (by unfold wrap64; omega); first | rfl | (rw [hw]; done) | (simp [hw]; done), ⟨by omega, by omega, by omega⟩, ⟨P.out.num HO2.out⟩, ⟨?_⟩⟩
                    have h2 := own_put_int rfl HO2.out y.toNat (1 + 100 * j)
                    rw [mp_set] at h2
                    rw [mp_congr (g := fun i => if i < (y + 1).toNat then (if (cn i : Int) < j + 1 then (1 + 100 * (cn i : Int)) else 0) else (if (cn i : Int) < j then (1 + 100 * (cn i : Int)) else 0))] at h2
                    · exact h2
                    · intro i hi
                      by_cases e : i = y.toNat
                      · subst e
                        rw [if_pos rfl, if_pos (show y.toNat < (y + 1).toNat by omega), HCV.out, if_pos (by omega), hq]
                      · rw [if_neg e]
                        by_cases h3 : i < y.toNat
                        · rw [if_pos h3, if_pos (show i < (y + 1).toNat by omega)]
                        · rw [if_neg h3, if_neg (show ¬ i < (y + 1).toNat by omega)]
                · rw [decide_eq_false hq] at hgy
                  have HGY := Aside0.mk hgy
                  clear hgy
                  go_wp2_with (go_at_call 27; have P1 := P.out; have h_ := words_Get.calls (m : Int) A_v c_v V y false wr (MakesWalk.Kd.own_C P1.own) (own_le P1.own) HGY.out; (with_reducible refine h_.mono ?_); clear h_; rintro er_ wz ⟨rfl, hb⟩; have P2 := P1.on hb; have HO2 := Aside0.mk (pw_own_below HO.out hb); clear HO hb P1 P t0_ t1_; have P := Aside0.mk P2; clear P2; skip)
                  go_roundg (m - (y + 1).toNat)
                  case measure => go_light; have := HY.out; omega
                  case rel =>
                    go_light
                    refine ⟨y + 1, by have hw : wrap64 (y + 1) = y + 1 := (by unfold wrap64; omega); first | rfl | (rw [hw]; done) | (simp [hw]; done), ⟨by omega, by omega, by omega⟩, P, ⟨?_⟩⟩
                    have h2 := HO2.out
                    rw [mp_congr (g := fun i => if i < (y + 1).toNat then (if (cn i : Int) < j + 1 then (1 + 100 * (cn i : Int)) else 0) else (if (cn i : Int) < j then (1 + 100 * (cn i : Int)) else 0))] at h2
                    · exact h2
                    · intro i hi
                      by_cases e : i = y.toNat
                      · subst e
                        rw [if_neg (show ¬ y.toNat < y.toNat by omega), if_pos (show y.toNat < (y + 1).toNat by omega), HCV.out]
                        by_cases h4 : (cv : Int) < j
                        · rw [if_pos h4, if_pos (by omega)]
                        · rw [if_neg h4, if_neg (by omega)]
                      · by_cases h3 : i < y.toNat
                        · rw [if_pos h3, if_pos (show i < (y + 1).toNat by omega)]
                        · rw [if_neg h3, if_neg (show ¬ i < (y + 1).toNat by omega)]
              · have hy : y = m := by have := HY.out; omega
                subst hy
                go_wp2
                go_roundg (16 - (j + 1).toNat)
                case measure => go_light; have := HJ.out; omega
                case rel =>
                  go_light
                  refine ⟨j + 1, by have hw : wrap64 (j + 1) = j + 1 := (by unfold wrap64; omega); first | rfl | (rw [hw]; done) | (simp [hw]; done), ⟨by omega, by omega, by omega⟩, ⟨P.out.toES⟩, ⟨?_⟩⟩
                  have h2 := HO.out
                  rw [mp_congr (g := fun i => if (cn i : Int) < j + 1 then (1 + 100 * (cn i : Int)) else 0)] at h2
                  · exact h2
                  · intro i hi
                    rw [if_pos (by omega)]
            
          · have hj : j = 16 := by have := HJ.out; omega
            subst hj
            go_wp2
            have HB2 := Aside0.mk P.out.be
            have ho2 := HO.out
            rw [mp_congr (g := fun i => 1 + 100 * (cn i : Int)) (fun i hi => by have := HCN.out i hi; rw [if_pos (by omega)])] at ho2
            clear HB P HO
            have HB := HB2
            have HO := Aside0.mk ho2
            clear HB2 ho2
            go_loopg [17] m (fun q_ s17 wr => ∃ y : Int, s17 = .int .i64 y ∧ Aside0 (0 ≤ y ∧ y ≤ m ∧ (q_ : Int) = m - y) ∧ Aside0 (Below w.heap.size w wr) ∧ Aside0 (wr.ownsRow w.heap.size 3 1 (.slice A_s m c_s) m (nums .i64 (mp m fun i => 1 + 100 * (cn i : Int)))))
            case atStart => exact ⟨0, rfl, ⟨by omega, by omega, by omega⟩, HB, HO⟩
            case round =>
              clear HB HO
              obtain ⟨y, rfl, HY, HB, HO⟩ := hrel
              by_cases qy : y < m
              · have py : 0 ≤ y := HY.out.1
                go_wp2
                go_loopg [18, 19] lr.length (fun q2_ s18 s19 wx => ∃ z : Int, s19 = .int .i64 z ∧ s18 = .int .i64 (cntTo (fun j i => (l.getD j []).getD i false) y.toNat z.toNat : Int) ∧ Aside0 (0 ≤ z ∧ z ≤ lr.length ∧ (q2_ : Int) = lr.length - z) ∧ Aside0 (Below w.heap.size w wx) ∧ Aside0 (wx.ownsRow w.heap.size 3 1 (.slice A_s m c_s) m (nums .i64 (mp m fun i => 1 + 100 * (cn i : Int)))))
                case atStart => exact ⟨0, rfl, rfl, ⟨by omega, by omega, by omega⟩, HB, HO⟩
                case round =>
                  clear HB HO
                  obtain ⟨z, rfl, rfl, HZ, HB, HO⟩ := hrel
                  have c15 := cntTo_le (fun j i => (l.getD j []).getD i false) y.toNat z.toNat
                  obtain ⟨ct, hct⟩ : ∃ c, cntTo (fun j i => (l.getD j []).getD i false) y.toNat z.toNat = c := ⟨_, rfl⟩
                  rw [hct] at c15 ⊢
                  have HCT := Aside0.mk hct
                  clear hct
                  by_cases qz : z < lr.length
                  · have pz : 0 ≤ z := HZ.out.1
                    have q1 : z < l.length := by have := HLRL.out; omega
                    obtain ⟨ad, A1, c1, e_, y0_, hle, hCz⟩ := at_LB HR.out HB.out z pz q1
                    subst e_
                    obtain ⟨hml, -⟩ := HROWS.out z.toNat (by have := HLRL.out; omega)
                    obtain ⟨ad1, e_, hw0⟩ := Kd.at_bool hCz y py (by omega)
                    subst e_
                    have b0_ : wr.cell? (ad1.add y.toNat) = some (.bool (rdOf false (l.getD z.toNat []) y)) := (HB.out.cell (CountWalk.cell_lt hw0)).trans hw0
                    obtain ⟨bv, hbv⟩ : ∃ b, rdOf false (l.getD z.toNat []) y = b := ⟨_, rfl⟩
                    rw [hbv] at b0_
                    have HBV := Aside0.mk (show (l.getD z.toNat []).getD y.toNat false = bv from hbv)
                    obtain ⟨Ly, hLy⟩ : ∃ q, (l.getD z.toNat []).length = q := ⟨_, rfl⟩
                    rw [hLy] at y0_ hle hml
                    clear hLy hbv hw0 hCz
                    have q3 : y < Ly := by omega
                    cases bv with
                    | true =>
                      go_wp2
                      go_roundg (lr.length - (z + 1).toNat)
                      case measure => go_light; have := HZ.out; omega
                      case rel =>
                        go_light
                        refine ⟨z + 1, by have hw : wrap64 (z + 1) = z + 1 := (by unfold wrap64; omega); first | rfl | (rw [hw]; done) | (simp [hw]; done), ?_, ⟨by omega, by omega, by omega⟩, HB, HO⟩
                        rw [show (z + 1).toNat = z.toNat + 1 by omega, show cntTo (fun j i => (l.getD j []).getD i false) y.toNat (z.toNat + 1) = cntTo (fun j i => (l.getD j []).getD i false) y.toNat z.toNat + (if (l.getD z.toNat []).getD y.toNat false then 1 else 0) from rfl, HCT.out, HBV.out]
                        first | rfl | simp
                    | false =>
                      go_wp2
                      go_roundg (lr.length - (z + 1).toNat)
                      case measure => go_light; have := HZ.out; omega
                      case rel =>
                        go_light
                        refine ⟨z + 1, by have hw : wrap64 (z + 1) = z + 1 := (by unfold wrap64; omega); first | rfl | (rw [hw]; done) | (simp [hw]; done), ?_, ⟨by omega, by omega, by omega⟩, HB, HO⟩
                        rw [show (z + 1).toNat = z.toNat + 1 by omega, show cntTo (fun j i => (l.getD j []).getD i false) y.toNat (z.toNat + 1) = cntTo (fun j i => (l.getD j []).getD i false) y.toNat z.toNat + (if (l.getD z.toNat []).getD y.toNat false then 1 else 0) from rfl, HCT.out, HBV.out]
                        first | rfl | simp
                  · have hz : z = lr.length := by have := HZ.out; omega
                    subst hz
                    rw [Int.toNat_natCast] at HCT c15
                    have hcn : (cn y.toNat : Int) = ct := by rw [HCNE.out y.toNat (by omega), HCT.out]
                    obtain ⟨g, e_⟩ := own_some' HO.out (by omega)
                    subst e_
                    have sc_ : wr.cell? ⟨g, y.toNat, none⟩ = some (.int .i64 (1 + 100 * (ct : Int))) := own_cell HO.out y.toNat _ (by rw [nums, List.getElem?_map, mp_get _ (by omega)]; simp [hcn])
                    have ct15 : ct ≤ 15 := by have := HLRL.out; omega
                    go_wp2
                    go_roundg (m - (y + 1).toNat)
                    case measure => go_light; have := HY.out; omega
                    case rel =>
                      go_light
                      exact ⟨y + 1, by have hw : wrap64 (y + 1) = y + 1 := (by unfold wrap64; omega); first | rfl | (rw [hw]; done) | (simp [hw]; done), ⟨by omega, by omega, by omega⟩, HB, HO⟩
                
              · have hy : y = m := by have := HY.out; omega
                subst hy
                go_wp2
                go_ret
                exact ⟨rfl, HB.out⟩
            
        
end Go.Proofs.Ytlghmadoogblcaa.EachWalk
end
section
namespace Go.Proofs.Ytlghmadoogblcaa.EachWalk
open Go Go.RowKit Go.Proofs.YtlghmadoogblcaaW.PrintWords Go.Proofs.YtlghmadoogblcaaW.PrintLast Go.Proofs.YtlghmadoogblcaaW.PrintMore Go.Proofs.Ytlghmadoogblcaa.PW Go.Proofs.Ytlghmadoogblcaa.Book Go.Proofs.Ytlghmadoogblcaa.Lent Go.Proofs.Ytlghmadoogblcaa.Pile Go.Proofs.Ytlghmadoogblcaa.Bits Go.Proofs.Ytlghmadoogblcaa.Rowp Go.Proofs.Ytlghmadoogblcaa.RefPlain Go.Proofs.Ytlghmadoogblcaa.Rows4
set_option linter.unusedVariables false
theorem getbit {n : Nat} {W : Nat → Nat} (g : Rowp.Good n W) (i : Nat) (hi : i < n) : (Go.bits .and .u64 (shr .u64 (rd (rowOf (nw n) W) ((i / 64 : Nat) : Int)) ((i % 64 : Nat) : Int)) 1 == 1) = bitAt W i := by
  rw [rowOf_rd _ _ _ (lt_nw hi), and_bit _ _ (g.lt _ (lt_nw hi)) (by omega), bit_one]
  rfl
theorem get_spec {n : Nat} {W : Nat → Nat} (g : Rowp.Good n W) (i : Nat) (hi : i < n) : words_Get.f (n : Int) (rowOf (nw n) W) (i : Int) = some (bitAt W i) := by
  have hle := g.le
  have h1 := lt_nw hi
  have hm := nw_le hle
  unfold words_Get.f
  rw [valid_spec g, Option.bind_some, if_pos rfl, if_pos (by omega), if_pos (by omega), tdiv64, tmod64, w64 ((i / 64 : Nat) : Int) (by omega), if_pos (by omega), rowOf_len, if_pos (by omega), if_pos (by omega), getbit g i hi]
theorem minTo_le (l : List (List Bool)) : ∀ n, minTo l n ≤ 65538 ∧ ∀ j, j < n → minTo l n ≤ (l.getD j []).length
  | 0 => ⟨Nat.le_refl _, fun j h => absurd h (Nat.not_lt_zero _)⟩
  | n + 1 => by
    obtain ⟨h1, h2⟩ := minTo_le l n
    have e : minTo l (n + 1) = min (minTo l n) (l.getD n []).length := rfl
    refine ⟨by omega, fun j hj => ?_⟩
    by_cases h : j = n
    · subst h; omega
    · have := h2 j (by omega); omega
theorem law (A0 : Option Addr) (c0 : Nat) (l : List (List Bool)) (w : World) (hR : Kd.C KB w A0 l.length l) (hc0 : l.length ≤ c0) (hm : l.length ≤ 17592186043904) :
    Calls Try.prog 12 #[.slice A0 l.length c0] w fun e w' => e = .returned (.bool true) ∧ Below w.heap.size w w' := by
  obtain ⟨k, hk⟩ : ∃ k, k = 17592186043908 := ⟨_, rfl⟩
  obtain ⟨m, hmz⟩ : ∃ m, (if l.length = 0 then 0 else minTo l (min l.length 15)) = m := ⟨_, rfl⟩
  obtain ⟨M, hM⟩ : ∃ M, min l.length 15 = M := ⟨_, rfl⟩
  have hmm := minTo_le l (min l.length 15)
  have hm2 : m ≤ 65538 := by
    rw [← hmz]
    split
    · omega
    · exact hmm.1
  have hle : ∀ j, j < M → m ≤ (l.getD j []).length := by
    intro j hj
    rw [← hmz, if_neg (by omega)]
    exact hmm.2 j (by omega)
  have hx : ∀ j, ∃ W : Nat → Nat, j < M → Rowp.Good m W ∧ (∀ i, i < m → bitAt W i = (l.getD j []).getD i false) ∧ words_Of.f k ((l.getD j []).take m) = some ((m : Int), rowOf (nw m) W, 0) := by
    intro j
    by_cases hj : j < M
    · have hlen : ((l.getD j []).take m).length = m := by rw [List.length_take]; have := hle j hj; omega
      obtain ⟨W, g, hb, ho⟩ := of_spec_bits (l := (l.getD j []).take m) (by omega) k (by omega)
      rw [hlen] at g hb ho
      refine ⟨W, fun _ => ⟨g, fun i hi => ?_, ho⟩⟩
      rw [hb i hi, List.getD_eq_getElem?_getD, List.getElem?_take, if_pos hi, ← List.getD_eq_getElem?_getD]
    · exact ⟨fun _ => 0, fun h => absurd h hj⟩
  obtain ⟨Wf, hWf⟩ : ∃ Wf : Nat → Nat → Nat, ∀ j, j < M → Rowp.Good m (Wf j) ∧ (∀ i, i < m → bitAt (Wf j) i = (l.getD j []).getD i false) ∧ words_Of.f k ((l.getD j []).take m) = some ((m : Int), rowOf (nw m) (Wf j), 0) := ⟨fun j => (hx j).choose, fun j => (hx j).choose_spec⟩
  obtain ⟨lr, hlr⟩ : ∃ lr : List S31, lr = (List.range M).map (fun j => ⟨(m : Int), rowOf (nw m) (Wf j)⟩) := ⟨_, rfl⟩
  have hll : lr.length = M := by rw [hlr]; simp
  have hget : ∀ j, j < M → lr.getD j z31 = ⟨(m : Int), rowOf (nw m) (Wf j)⟩ := by
    intro j hj
    rw [hlr, List.getD_eq_getElem?_getD, List.getElem?_map, List.getElem?_range hj]
    rfl
  obtain ⟨A, B, C, D, ga, gb, gc, gd, hd, ht⟩ := EachPlain.count_told lr m (fun j i => (l.getD j []).getD i false) hm2 (by omega) (fun h => by rw [← hmz, if_pos (by omega)]) (fun j hj => ⟨Wf j, hget j (by omega), (hWf j (by omega)).1, (hWf j (by omega)).2.1⟩)
  refine core k A0 c0 l lr m ⟨rowOf (nw m) A, rowOf (nw m) B, rowOf (nw m) C, rowOf (nw m) D⟩ w hR hc0 hm (by omega) (at_rounds (g := fun k => vivariumlaw02_alive.f k) (fun k => vivariumlaw02_alive.mono k) (by omega) Alive.alive_true) hmz hm2 (by omega)
    (fun j hj => ⟨hle j (by omega), by rw [hget j (by omega)]; exact (hWf j (by omega)).2.2⟩) (fun j hj => by rw [hget j (by omega)])
    (fun i => cntTo (fun j i => (l.getD j []).getD i false) i lr.length) (fun i hi => Nat.le_trans (cntTo_le _ _ _) (by omega)) (fun i hi => rfl) (fun j h0 h1 => ?_) ht
  obtain ⟨V, gv, hv, hi⟩ := EachPlain.is_told m hm2 A B C D ga gb gc gd j h0 (by omega)
  refine ⟨rowOf (nw m) V, valid_spec gv, fun i hi2 => ?_, hi⟩
  rw [get_spec gv i hi2, hv i hi2, EachPlain.says_cnt _ (Nat.le_trans (cntTo_le _ _ _) (by omega)) _ _ _ _ i (hd i hi2)]
end Go.Proofs.Ytlghmadoogblcaa.EachWalk
end
section
namespace Go.Proofs.Ytlghmadoogblcaa.OpenBits
open Go Go.RowKit Go.Proofs.YtlghmadoogblcaaW.PrintWords
set_option linter.unusedVariables false
end Go.Proofs.Ytlghmadoogblcaa.OpenBits
end
section
namespace Go.Proofs.Ytlghmadoogblcaa.OpenGrid
open Go Go.RowKit Go.Proofs.YtlghmadoogblcaaW.PrintWords
set_option linter.unusedVariables false
theorem open_grid {H : Type} {enc : TypeId × Value → H} {P : Program} {w : World} {base : Nat} {held : Bool} {r : Reach} {b0 : Nat} {t e q : TypeId} {v : Value} {d : DataW H} {ps : List MemPlace} (ht : P.underlying t = some (.slice e)) (he : P.underlying e = some (.slice q)) (hq : P.underlying q = some .bool) (ce : P.cellsOf e = 1) (cq : P.cellsOf q = 1)
    (hval : Value.okWide P w r b0 t v) (hd : DataW.Trod enc P w base (fun _ => true) held t v d ps) :
    ∃ (A : Option Addr) (c : Nat) (l : List (List Bool)), v = .slice A l.length c ∧ l.length ≤ c ∧ Kd.C (Kd.slice q Kd.bool) w A l.length l ∧ (l.length = 0 ∨ ∃ elems rest, elems.length = l.length ∧ d = .slice elems rest) := by
  obtain ⟨a, len, cap, rfl⟩ := Go.WideShapes.okWide_slice ht hval
  obtain ⟨fuel, hf⟩ := hd
  rcases Go.Deep.open_bool_rows ht he hq ce cq hf with ⟨h1, _⟩ | ⟨ad, n, c, Af, Lf, Cf, Bf, h1, _, hl, hm, hx, hcell⟩
  · have e1 : Value.slice a len cap = .slice none 0 0 := by simpa [Value.cells] using h1
    injection e1 with e1 e2 e3
    subst e1 e2 e3
    exact ⟨none, 0, [], rfl, Nat.le_refl _, Kd.C_nil _ _, .inl rfl⟩
  · have e1 : Value.slice a len cap = .slice (some ad) n c := by simpa [Value.cells] using h1
    injection e1 with e1 e2 e3
    subst e1 e2 e3
    have hlen : ((List.range len).map fun i => (List.range (Lf i)).map (Bf i)).length = len := by simp
    refine ⟨some ad, cap, (List.range len).map fun i => (List.range (Lf i)).map (Bf i), by rw [hlen], by rw [hlen]; exact hl, ⟨by simp, by rw [hlen]; simp [maxLen] at hm; omega, fun _ => ⟨ad, rfl, fun j p hj => ?_⟩⟩, .inr ⟨_, _, ?_, congrArg Prod.fst hx⟩⟩
    · have hj' : j < len := by
        have := (List.getElem?_eq_some_iff.1 hj).1
        simpa using this
      have hp : p = (List.range (Lf j)).map (Bf j) := by
        rw [List.getElem?_map, List.getElem?_range hj'] at hj
        simpa using hj.symm
      subst hp
      obtain ⟨g0, g1, g2, g3, g4⟩ := hcell j (by omega)
      have hpl : ((List.range (Lf j)).map (Bf j)).length = Lf j := by simp
      refine ⟨[.slice (Af j) (Lf j) (Cf j)], rfl, ⟨Af j, Cf j, by rw [hpl], by rw [hpl]; exact g1, ⟨rfl, by rw [hpl]; simp [maxLen] at g2; omega, fun hn => ?_⟩⟩, fun i u hu => ?_⟩
      · rw [hpl] at hn
        cases ha : Af j with
        | none =>
          have := g3 ha
          omega
        | some a2 =>
          refine ⟨a2, rfl, fun i b hb => ⟨_, rfl, rfl, fun i2 u hu => ?_⟩⟩
          have hi' : i < Lf j := by
            have := (List.getElem?_eq_some_iff.1 hb).1
            simpa using this
          have hbv : b = Bf j i := by
            rw [List.getElem?_map, List.getElem?_range hi'] at hb
            simpa using hb.symm
          match i2, hu with
          | 0, hu =>
            obtain rfl : Value.bool b = u := by simpa using hu
            rw [hbv]
            simpa [Kd.bool, Kd.scalar] using (g4 a2 ha).2 i (by omega)
          | i2 + 1, hu => simp at hu
      · match i, hu with
        | 0, hu =>
          obtain rfl : Value.slice (Af j) (Lf j) (Cf j) = u := by simpa using hu
          simpa [Kd.slice] using g0
        | i + 1, hu => simp at hu
    · simp
end Go.Proofs.Ytlghmadoogblcaa.OpenGrid
end
section
namespace Go.Proofs.Ytlghmadoogblcaa.wordsEach
open Go.ChangeShapes Go.WideShapes Go.ChangeAt Go.RowKit Go.Joins Go.Deep
open Go.ChangeMaps (open_string shut_string)
set_option linter.unusedVariables false
theorem own : ownKnob Try.prog.godebug = none := by kernel_rfl
theorem laidOut : laidOutB Try.prog = true := by kernel_rfl
set_option maxRecDepth 100000 in
theorem lifted (os : Os) (started : os.Started) (H : Type) (enc : TypeId × Value → H) (F : Stop.Interp) :
    ReturnsInHanded {} Try.checked os 12 .any ((Rows.OpenSpec.upto Rows.wordsEachSpec).pre6 enc Try.prog Try.f12 Rows.wordsEachUptoRow.domain false) (((Rows.OpenSpec.upto Rows.wordsEachSpec).at F).post enc Try.prog Try.f12 false true false false) := by
  refine returnsInHanded_of_cond_sized (C := Try.checked) (s := Rows.OpenSpec.upto Rows.wordsEachSpec) (k := Rows.uptoSmall) rfl own started (by kernel_rfl) Try.func12
    (OpenSpec.witness (enc := enc) (C := Try.checked) (s := Rows.OpenSpec.upto Rows.wordsEachSpec) (k := Rows.uptoSmall) rfl false ⟨#[], #[.slice none 0 0], []⟩ 8 (by kernel_rfl) (by kernel_rfl) (by kernel_rfl)
      (x := ([.nil], [], [])) (by kernel_rfl) rfl (by kernel_rfl)) ?_
  intro W base args ds gs before hval0 hW hcnd hk_ hsz0 _
  have hsz : (DataW.weightsEach Try.prog (Try.f12.params.toList ++ Rows.wordsEachSpec.plain.varTypes Try.prog) (ds ++ gs)).all (· ≤ reachBytes) = true := hsz0
  have hval : ∀ (j : Nat) t v, Try.f12.params[j]? = some t → args[j]? = some v → Value.okWide Try.prog W .any base t v := hval0
  have hW' := hW
  obtain ⟨p, q, hA0, hV, rfl, hfz, hnd⟩ := hW
  have hA : DataW.TrodAll enc Try.prog W 0 (fun _ => true) true Try.f12.params.toList args.toList ds p := hA0
  rw [Try.params12] at hA hval hsz
  obtain ⟨v0, vs0, d0, ds0, p0, q0, hargs, rfl, rfl, h0, r0⟩ := trodAll_cons hA
  obtain ⟨rfl, rfl, rfl⟩ := trodAll_nil r0
  obtain rfl : args = #[v0] := by cases args; simp_all
  obtain ⟨rfl, rfl⟩ := trodVars_none hV
  have k0 := h0
  have lt0 : ∀ x ∈ p0, x.block < W.heap.size := by obtain ⟨m, hm⟩ := k0; exact DataW.trod_lt m _ _ _ hm
  clear hA0 hval0 hsz0
  have done : ∀ W', Below W.heap.size W W' → ∃ r, (Ending.returned (.bool true)) = .returned r ∧ Rows.wordsEachSpec.post enc Try.prog Try.f12 false true false false W #[v0] r W' := fun W' bel =>
    ⟨_, rfl, _, _, _, [], _, [], hW', trodAll_mk1 (shut_bool Try.underlying4 _), (trodAll_cons_mk (Below.trod laidOut (by kernel_rfl) (of_decide_eq_true (by kernel_rfl)) k0 bel lt0) trodAll_mk0), rfl, bel.frame _, fun h => by cases h⟩
  obtain ⟨A1, m1, l1, rfl, hc1, hr1, hx1⟩ := OpenGrid.open_grid Try.underlying73 Try.underlying35 Try.underlying4 (by kernel_rfl) (by kernel_rfl) (hval 0 73 v0 rfl rfl) h0
  have hm1 : l1.length ≤ 17592186043904 := by
    rcases hx1 with h_ | ⟨el, sp, hel, hx⟩
    · omega
    · have h2 := sized_slice hsz (j := 0) (elems := el) (spare := sp) rfl (by subst hx; rfl) Try.underlying73
      rw [show Try.prog.bytesOf 35 = 24 by kernel_rfl] at h2
      have h3 : reachBytes = 140737488351232 := rfl
      omega
  refine (EachWalk.law A1 m1 l1 W hr1 hc1 hm1).mono fun e W' ⟨he, bel⟩ => ?_
  subst he
  exact done W' bel
theorem over : Rows.wordsEachUptoRow.holds Try.pinned (Rows.OpenSpec.upto Rows.wordsEachSpec) :=
  OpenClaim.holds_of_cond 12 Try.f12 rfl rfl rfl rfl rfl rfl rfl ⟨rfl, rfl, rfl, rfl, rfl⟩ rfl rfl rfl rfl rfl (by kernel_rfl) Try.func12 (by kernel_rfl)
    (of_decide_eq_true (by kernel_rfl)) (by unfold Func.isWrapper; first | (rw [if_pos (by decide +kernel)]; kernel_rfl) | (rw [if_neg (by decide +kernel)]; exact ⟨rfl, rfl⟩))
    (fun os started H enc _ F => lifted os started H enc F)
theorem proved : Rows.WordsEachUptoSaid := over
end Go.Proofs.Ytlghmadoogblcaa.wordsEach
namespace Go.Proofs.Ytlghmadoogblcaa
theorem wordsEach_holds : Rows.WordsEachUptoSaid := wordsEach.proved
#print axioms wordsEach_holds
end Go.Proofs.Ytlghmadoogblcaa
end
