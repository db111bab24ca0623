/- The row of WordsCounts. -/
import Derived.Test.YtlghmadoogblcaaKCounts4
section
namespace Go.Proofs.Ytlghmadoogblcaa.CountsLaw
open Go Go.RowKit Go.Proofs.YtlghmadoogblcaaW.PrintWords Go.Proofs.YtlghmadoogblcaaW.PrintLast Go.Proofs.YtlghmadoogblcaaW.PrintMore Go.Proofs.Ytlghmadoogblcaa.PW Go.Proofs.Ytlghmadoogblcaa.Book Go.Proofs.Ytlghmadoogblcaa.Lent Go.Proofs.Ytlghmadoogblcaa.Pile Go.Proofs.Ytlghmadoogblcaa.Rows4
set_option linter.unusedVariables false
set_option linter.unusedSimpArgs false
theorem pw_own_below2 {w w1 : World} {base : Nat} {e : TypeId} {n : Nat} {v : Value} {xs : List Value} (h : w.ownsRow base e 2 v n xs) (hb : Below w.heap.size w w1) : w1.ownsRow base e 2 v n xs := own_move h (fun k hk => hb.block k (own_lt h k hk))
def wipeOf (X : List Int) : List Int := X.map (fun v => Go.bits .xor .u64 v 6148914691236517205)
theorem cs_facts {l : List S31} {Lf : List (Nat × Nat × List Int)} {cs : List Value} (h : ∀ (j : Nat) u, (fullCells l Lf l.length ++ [.int .i64 (-5), .slice none 0 0])[j]? = some u → cs[j]? = some u) :
    (∀ i, i < l.length → cs[i * 2]? = some (.int .i64 (l.getD i z31).f0) ∧ cs[i * 2 + 1]? = some (.slice (some ⟨(Lf.getD i (0, 0, [])).1, 0, none⟩) (l.getD i z31).f1.length (Lf.getD i (0, 0, [])).2.1)) ∧ cs[l.length * 2]? = some (.int .i64 (-5)) := by
  have hl := fullCells_len l Lf l.length
  refine ⟨fun i hi => ?_, h _ _ ?_⟩
  · obtain ⟨h1, h2⟩ := fullCells_get l Lf l.length i hi
    exact ⟨h _ _ (by rw [List.getElem?_append_left (by omega)]; exact h1), h _ _ (by rw [List.getElem?_append_left (by omega)]; exact h2)⟩
  · rw [List.getElem?_append_right (by omega), hl, show l.length * 2 - 2 * l.length = 0 by omega]
    rfl
set_option maxHeartbeats 8000000 in
set_option maxRecDepth 100000 in
theorem core (k : Nat) (A0 : Option Addr) (c0 : Nat) (l lz : List S31) (m1 m2 e1 e2 : Int) (q qz : Q4) (w : World) (hR : Kd.C k31 w A0 l.length l) (hc0 : l.length ≤ c0) (hm : l.length ≤ 4398046510976) (hmx : ∀ i, i < l.length → (l.getD i z31).f1.length ≤ 17592186043904) (hk : 17592186043906 < k)
    (hal : vivariumlaw02_alive.f k = some true) (hlz : lz.length = l.length) (hlz2 : ∀ i, i < l.length → lz.getD i z31 = ⟨(l.getD i z31).f0, wipeOf (l.getD i z31).f1⟩)
    (t1 : CountPlain.Told 33 l m1 q e1) (t2 : CountPlain.Told 32 l m1 q e1) (t3 : CountPlain.Told 33 lz m2 qz e2) (t4 : CountPlain.Told 32 lz m2 qz e2)
    (yqa : q.a.length ≤ 2000000) (yqb : q.b.length ≤ 2000000) (yqc : q.c.length ≤ 2000000) (yqd : q.d.length ≤ 2000000) (yqza : qz.a.length ≤ 2000000) (yqzb : qz.b.length ≤ 2000000) (yqzc : qz.c.length ≤ 2000000) (yqzd : qz.d.length ≤ 2000000) :
    Calls Try.prog 8 #[.slice A0 l.length c0] w fun e w' => e = .returned (.bool true) ∧ Below w.heap.size w w' := by
  have HR := Aside0.mk hR; have HC0 := Aside0.mk hc0; have HM := Aside0.mk hm; have HMX := Aside0.mk hmx; have HK := Aside0.mk hk; have HA := Aside0.mk hal; have HLL := Aside0.mk hlz; have HLL2 := Aside0.mk hlz2
  have T1 := Aside0.mk t1; have T2 := Aside0.mk t2; have T3 := Aside0.mk t3; have T4 := Aside0.mk t4
  have HQqa := Aside0.mk yqa; have HQqb := Aside0.mk yqb; have HQqc := Aside0.mk yqc; have HQqd := Aside0.mk yqd; have HQqza := Aside0.mk yqza; have HQqzb := Aside0.mk yqzb; have HQqzc := Aside0.mk yqzc; have HQqzd := Aside0.mk yqzd
  have hu := Try.underlying31
  have hu4 := Try.underlying54
  have hur := Try.underlying38
  clear hR hmx hk hal hlz hlz2 t1 t2 t3 t4 yqa yqb yqc yqd yqza yqzb yqzc yqzd
  go_enter Try.func8, Try.ntmps8
  go_wp2_with (go_at_call 13; have h_ := vivariumlaw02_alive.calls k true w rfl HA.out; (with_reducible refine h_.mono ?_); clear h_; rintro er_ v1 ⟨rfl, hb⟩; have P := Aside0.mk ((Pile0.start w).on hb); clear hb)
  go_loopg [4, 5] l.length (fun q_ s4 s5 wr => ∃ (y : Int) (Lf : List (Nat × Nat × List Int)), s5 = .int .i64 y ∧ Aside0 (0 ≤ y ∧ y ≤ l.length ∧ (q_ : Int) = l.length - y) ∧ Aside0 (Pile0 w wr [] Lf []) ∧ Aside0 (wr.ownsRow w.heap.size 31 2 s4 y.toNat (fullCells l Lf y.toNat)) ∧ Aside0 (Lf.length = y.toNat ∧ ∀ i, i < y.toNat → (Lf.getD i (0, 0, [])).2.2 = (l.getD i z31).f1))
  case atStart => exact ⟨0, [], rfl, ⟨by omega, by omega, by omega⟩, P, ⟨own_nil _ _ _ _⟩, ⟨rfl, fun i h => absurd h (Nat.not_lt_zero _)⟩⟩
  case round =>
    clear P
    obtain ⟨y, Lf, rfl, HY, P, HO, HLF⟩ := hrel
    by_cases qy : y < l.length
    · have py : 0 ≤ y := HY.out.1
      obtain ⟨ad, Aj, cj, e_, y0_, y1_, hle, hCj⟩ := CountWalk.at_row HR.out P.out.be y py qy
      subst e_
      obtain ⟨Nj, hNj⟩ : ∃ q, (rd_T31 l y).f0 = q := ⟨_, rfl⟩
      obtain ⟨X, hX⟩ : ∃ q, (rd_T31 l y).f1 = q := ⟨_, rfl⟩
      rw [hNj] at y0_
      rw [hX] at y1_ hle hCj
      have hmx : X.length ≤ 17592186043904 := by rw [← hX]; exact HMX.out y.toNat (by omega)
      have HNJ := Aside0.mk hNj
      have HX := Aside0.mk hX
      have HCJ := Aside0.mk hCj
      have HLE := Aside0.mk hle
      have HMJ := Aside0.mk hmx
      clear hNj hX hCj hle hmx
      go_wp2_with (first
        | (go_at_call 24; have h_ := Lent.lent Nj Aj cj X wr (Kd.C_below HCJ.out P.out.be) HLE.out HMJ.out; (with_reducible refine h_.mono ?_); clear h_; rintro er_ wl ⟨g, d, rfl, hl, hb⟩; have P2 := P.out.lend hb hl; have HO2 := Aside0.mk (pw_own_below2 HO.out hb); clear HO P y0_ y1_ hl hb; have P := Aside0.mk P2; have HO := HO2; clear P2 HO2)
        | (at_builtin; refine print_append_cells (w0 := w) (W := (wl.alloc (.cells #[.int .i64 Nj, .slice (some ⟨g, 0, none⟩) X.length d] 31))) w.heap.size rfl (.tmp 37) (.tmp 39) 38 31 (.agg #[.int .i64 0, .slice none 0 0]) 2 32 rfl Try.underlying38 (by kernel_rfl) rfl (by decide) (by decide) _ y.toNat (fullCells l Lf y.toNat) [.int .i64 Nj, .slice (some ⟨g, 0, none⟩) X.length d] rfl (by first | rfl | (go_simp; done) | (simp [Act.eval]; done)) rfl (by intro u hu; simp at hu; rcases hu with rfl | rfl <;> rfl) (own_alloc HO.out _) (below_alloc P.out.be _) (by have := P.out.be.size; simp; omega) ?c1 ?_; (case c1 => go_light; have := HM.out; omega); intro v1_ w1 ho_ hb_ hg_ hat_; have HOA := Aside0.mk (own_alloc HO.out (.cells #[.int .i64 Nj, .slice (some ⟨g, 0, none⟩) X.length d] 31)); have HN := Aside0.mk ho_; have P2 := (P.out.on (below_alloc (Below.refl _ wl) (.cells #[.int .i64 Nj, .slice (some ⟨g, 0, none⟩) X.length d] 31))).grown rfl hg_ (fun k hk => ⟨own_base HOA.out k hk, own_typed HOA.out k hk⟩); clear ho_ hb_ hg_ hat_ HO HOA P; have P := Aside0.mk P2; clear P2))
      go_roundg (l.length - (y + 1).toNat)
      case measure => go_light; have := HY.out; omega
      case rel =>
        go_light
        refine ⟨y + 1, Lf ++ [(g, d, X)], by have hw : wrap64 (y + 1) = y + 1 := (by unfold wrap64; omega); first | rfl | (rw [hw]; done) | (simp [hw]; done), ⟨by omega, by omega, by omega⟩, P, ⟨?_⟩, ⟨by rw [List.length_append, HLF.out.1]; simp; omega, fun i hi => ?_⟩⟩
        · have h2 := HN.out
          rw [show (y + 1).toNat = y.toNat + 1 by omega]
          have e1 : fullCells l (Lf ++ [(g, d, X)]) (y.toNat + 1) = fullCells l Lf y.toNat ++ [.int .i64 Nj, .slice (some ⟨g, 0, none⟩) X.length d] := by
            have hN : (l.getD y.toNat z31).f0 = Nj := HNJ.out
            have hX : (l.getD y.toNat z31).f1 = X := HX.out
            have hg : (Lf ++ [(g, d, X)]).getD y.toNat (0, 0, []) = (g, d, X) := by rw [← HLF.out.1]; exact getD_last Lf (g, d, X)
            show fullCells l (Lf ++ [(g, d, X)]) y.toNat ++ _ = _
            rw [fullCells_snoc l Lf _ _ (by have := HLF.out.1; omega), hN, hX, hg]
          rw [e1]
          exact h2
        · by_cases e : i = y.toNat
          · subst e
            have hX : (l.getD y.toNat z31).f1 = X := HX.out
            rw [hX, ← HLF.out.1, getD_last]
          · have h3 := HLF.out.2 i (by omega)
            rw [← h3, List.getD_eq_getElem?_getD, List.getD_eq_getElem?_getD, List.getElem?_append_left (by have := HLF.out.1; omega)]
  
    · have hy : y = l.length := by have := HY.out; omega
      rw [hy, Int.toNat_natCast] at HO HLF
      subst hy
      go_wp2_with (first
            | (at_builtin; refine print_append_cells (w0 := w) (W := wr) w.heap.size rfl (.tmp 41) (.tmp 43) 38 31 (.agg #[.int .i64 0, .slice none 0 0]) 2 32 rfl Try.underlying38 (by kernel_rfl) rfl (by decide) (by decide) _ l.length (fullCells l Lf l.length) [.int .i64 (-5), .slice none 0 0] rfl (by first | rfl | (go_simp; done) | (simp [Act.eval]; done)) rfl (by intro u hu; simp at hu; rcases hu with rfl | rfl <;> rfl) HO.out P.out.be P.out.be.size ?c1 ?_; (case c1 => go_light; have := HM.out; omega); intro v1_ w1 ho_ hb_ hg_ hat_; obtain ⟨f, cf, e_, _⟩ := ho_.form (by omega); subst e_; obtain ⟨cs, hcs, hbf, hcf, hget⟩ := own_whole ho_; have P2 := (P.out.grown rfl hg_ (fun k hk => ⟨own_base HO.out k hk, own_typed HO.out k hk⟩)).hold hcs; have HCS := Aside0.mk (cs_facts hget); have HCS2 := Aside0.mk HCS.out.1; have HLF2 := Aside0.mk (⟨Nat.le_of_eq HLF.out.1.symm, HLF.out.2⟩ : l.length ≤ Lf.length ∧ ∀ i, i < l.length → (Lf.getD i (0, 0, [])).2.2 = (l.getD i z31).f1); have HCF := Aside0.mk hcf; clear ho_ hb_ hg_ hat_ HO P hget hcs hbf; have P := Aside0.mk P2; clear P2)
            | (go_at_call 32; have P1 := (Pile.make P.out (w1.heap.size) rfl); have h_ := T2.out A0 c0 _ (Kd.C_below HR.out P1.p0.be) HC0.out; (with_reducible refine h_.mono ?_); clear h_; rintro er_ u1 ⟨t0_, t1_, t2_, t3_, rfl, hr, hb⟩; have P2 := P1.toldRows hb hr; obtain ⟨A_0, c_0, e_⟩ := own_slice (hr.own 0 _ rfl); (try simp only at e_); subst e_; obtain ⟨A_1, c_1, e_⟩ := own_slice (hr.own 1 _ rfl); (try simp only at e_); subst e_; obtain ⟨A_2, c_2, e_⟩ := own_slice (hr.own 2 _ rfl); (try simp only at e_); subst e_; obtain ⟨A_3, c_3, e_⟩ := own_slice (hr.own 3 _ rfl); (try simp only at e_); subst e_; clear P P1 hb hr; have P := Aside0.mk P2; clear P2)
            | (go_at_call 33; have P1 := (P.out.on (below_alloc (Below.refl _ u1) (.cells #[.int .i64 m1, .slice A_0 q.a.length c_0, .int .i64 m1, .slice A_1 q.b.length c_1, .int .i64 m1, .slice A_2 q.c.length c_2, .int .i64 m1, .slice A_3 q.d.length c_3] 54))); have h_ := T1.out (some ⟨f, 0, none⟩) cf _ (full_C P1.p0 (by have := HM.out; omega) HLF2.out HCS2.out) (by have := HCF.out; omega); (with_reducible refine h_.mono ?_); clear h_; rintro er_ u2 ⟨t0_, t1_, t2_, t3_, rfl, hr, hb⟩; have P2 := P1.toldRows hb hr; obtain ⟨A_4, c_4, e_⟩ := own_slice (hr.own 0 _ rfl); (try simp only at e_); subst e_; obtain ⟨A_5, c_5, e_⟩ := own_slice (hr.own 1 _ rfl); (try simp only at e_); subst e_; obtain ⟨A_6, c_6, e_⟩ := own_slice (hr.own 2 _ rfl); (try simp only at e_); subst e_; obtain ⟨A_7, c_7, e_⟩ := own_slice (hr.own 3 _ rfl); (try simp only at e_); subst e_; have XW2 := (BoxF.mk (cs := [.int .i64 m1, .slice A_0 q.a.length c_0, .int .i64 m1, .slice A_1 q.b.length c_1, .int .i64 m1, .slice A_2 q.c.length c_2, .int .i64 m1, .slice A_3 q.d.length c_3]) (blk_new u1 _) (by decide) (by decide) (by decide) (by decide) : BoxF (u1.alloc (.cells #[.int .i64 m1, .slice A_0 q.a.length c_0, .int .i64 m1, .slice A_1 q.b.length c_1, .int .i64 m1, .slice A_2 q.c.length c_2, .int .i64 m1, .slice A_3 q.d.length c_3] 54)) u1.heap.size [.int .i64 m1, .slice A_0 q.a.length c_0, .int .i64 m1, .slice A_1 q.b.length c_1, .int .i64 m1, .slice A_2 q.c.length c_2, .int .i64 m1, .slice A_3 q.d.length c_3] 54).on hb; have XW := Aside0.mk XW2; clear XW2; have xw0 := XW.out.at_ 0 (.int .i64 m1) rfl; have xw1 := XW.out.at_ 1 (.slice A_0 q.a.length c_0) rfl; have xw2 := XW.out.at_ 2 (.int .i64 m1) rfl; have xw3 := XW.out.at_ 3 (.slice A_1 q.b.length c_1) rfl; have xw4 := XW.out.at_ 4 (.int .i64 m1) rfl; have xw5 := XW.out.at_ 5 (.slice A_2 q.c.length c_2) rfl; have xw6 := XW.out.at_ 6 (.int .i64 m1) rfl; have xw7 := XW.out.at_ 7 (.slice A_3 q.d.length c_3) rfl; have qxw := blk_lt XW.out.bx; clear P P1 hb hr; have P := Aside0.mk P2; clear P2)
            | (go_at_call 34; have P1 := (P.out.on (below_alloc (Below.refl _ u2) (.cells #[.int .i64 m1, .slice A_4 q.a.length c_4, .int .i64 m1, .slice A_5 q.b.length c_5, .int .i64 m1, .slice A_6 q.c.length c_6, .int .i64 m1, .slice A_7 q.d.length c_7] 54))); have h_ := P1.four k rfl (by simp) (by have := HK.out; omega) 4 0 5 1 6 2 7 3 m1 e1 A_4 A_0 A_5 A_1 A_6 A_2 A_7 A_3 c_4 c_0 c_5 c_1 c_6 c_2 c_7 c_3 q.a q.b q.c q.d rfl rfl HQqa.out rfl rfl HQqb.out rfl rfl HQqc.out rfl rfl HQqd.out; (with_reducible refine h_.mono ?_); clear h_; rintro er_ u3 ⟨rfl, gv_, wv_, Z1, P2, hZ1, hF⟩; have HZ1 := Aside0.mk hZ1; clear hZ1; have XW2 := hF _ _ _ (XW.out.on (below_alloc (Below.refl _ u2) (.cells #[.int .i64 m1, .slice A_4 q.a.length c_4, .int .i64 m1, .slice A_5 q.b.length c_5, .int .i64 m1, .slice A_6 q.c.length c_6, .int .i64 m1, .slice A_7 q.d.length c_7] 54))); clear xw0 xw1 xw2 xw3 xw4 xw5 xw6 xw7 qxw; clear XW; have XW := Aside0.mk XW2; clear XW2; clear P P1 hF; have P := Aside0.mk P2; clear P2)
            | (go_at_call 33; have P1 := P.out; have h_ := T1.out (some ⟨f, 0, none⟩) cf _ (full_C P1.p0 (by have := HM.out; omega) HLF2.out HCS2.out) (by have := HCF.out; omega); (with_reducible refine h_.mono ?_); clear h_; rintro er_ u4 ⟨t0_, t1_, t2_, t3_, rfl, hr, hb⟩; have P2 := P1.toldRows hb hr; obtain ⟨A_8, c_8, e_⟩ := own_slice (hr.own 0 _ rfl); (try simp only at e_); subst e_; obtain ⟨A_9, c_9, e_⟩ := own_slice (hr.own 1 _ rfl); (try simp only at e_); subst e_; obtain ⟨A_10, c_10, e_⟩ := own_slice (hr.own 2 _ rfl); (try simp only at e_); subst e_; obtain ⟨A_11, c_11, e_⟩ := own_slice (hr.own 3 _ rfl); (try simp only at e_); subst e_; have XW2 := XW.out.on hb; clear XW; have XW := Aside0.mk XW2; clear XW2; have xw0 := XW.out.at_ 0 (.int .i64 m1) rfl; have xw1 := XW.out.at_ 1 (.slice A_0 q.a.length c_0) rfl; have xw2 := XW.out.at_ 2 (.int .i64 m1) rfl; have xw3 := XW.out.at_ 3 (.slice A_1 q.b.length c_1) rfl; have xw4 := XW.out.at_ 4 (.int .i64 m1) rfl; have xw5 := XW.out.at_ 5 (.slice A_2 q.c.length c_2) rfl; have xw6 := XW.out.at_ 6 (.int .i64 m1) rfl; have xw7 := XW.out.at_ 7 (.slice A_3 q.d.length c_3) rfl; have qxw := blk_lt XW.out.bx; clear P P1 hb hr; have P := Aside0.mk P2; clear P2)
            | (go_at_call 34; have P1 := (P.out.on (below_alloc (Below.refl _ u4) (.cells #[.int .i64 m1, .slice A_8 q.a.length c_8, .int .i64 m1, .slice A_9 q.b.length c_9, .int .i64 m1, .slice A_10 q.c.length c_10, .int .i64 m1, .slice A_11 q.d.length c_11] 54))); have h_ := P1.four k (by simp [HZ1.out]) (by have := HZ1.out; simp at *; omega) (by have := HK.out; omega) 8 0 9 1 10 2 11 3 m1 e1 A_8 A_0 A_9 A_1 A_10 A_2 A_11 A_3 c_8 c_0 c_9 c_1 c_10 c_2 c_11 c_3 q.a q.b q.c q.d rfl rfl HQqa.out rfl rfl HQqb.out rfl rfl HQqc.out rfl rfl HQqd.out; (with_reducible refine h_.mono ?_); clear h_; rintro er_ u5 ⟨rfl, gv_, wv_, Z2, P2, hZ2, hF⟩; have HZ2 := Aside0.mk hZ2; clear hZ2; clear xw0 xw1 xw2 xw3 xw4 xw5 xw6 xw7 qxw; clear XW; have y_m := (P2.p0.at_ (i := 0) rfl).2 _ _ HCS.out.2; have hlen0 : (0 : Int) ≤ (l.length : Int) := (by omega); clear P P1 hF; have P := Aside0.mk P2; clear P2))
      clear y_m
      go_loopg [15] l.length (fun q_ s15 wr => ∃ (y : Int) (Lq : List (Nat × Nat × List Int)), s15 = .int .i64 y ∧ Aside0 (0 ≤ y ∧ y ≤ l.length ∧ (q_ : Int) = l.length - y) ∧ Aside0 (∀ {b : Nat} {gv wv : Value} {Z : List Ans} {ix : List Nat} {R : List (Value × List Int)} {T : List (Nat × List Value)}, Pile w u5 b gv wv Z ix R T Lf [] → Pile w wr b gv wv Z ix R T Lq []) ∧ Aside0 (Lq.length = l.length ∧ ∀ i, i < l.length → Lq.getD i (0, 0, []) = ((Lf.getD i (0, 0, [])).1, (Lf.getD i (0, 0, [])).2.1, if i < y.toNat then wipeOf (l.getD i z31).f1 else (l.getD i z31).f1)))
      case atStart => exact ⟨0, Lf, rfl, ⟨by omega, by omega, by omega⟩, ⟨fun h => h⟩, ⟨HLF.out.1, fun i hi => by rw [if_neg (show ¬ i < (0 : Int).toNat from Nat.not_lt_zero i), ← HLF.out.2 i hi]⟩⟩
      case round =>
        obtain ⟨y, Lq, rfl, HY, HT, HLQ⟩ := hrel
        by_cases qy : y < l.length
        · have py : 0 ≤ y := HY.out.1
          have PW := Aside0.mk (HT.out P.out)
          obtain ⟨ad, Aj, cj, e_, y0_, y1_, hle, hCj⟩ := CountWalk.at_row HR.out PW.out.p0.be y py qy
          subst e_
          obtain ⟨Nj, hNj⟩ : ∃ q, (rd_T31 l y).f0 = q := ⟨_, rfl⟩
          obtain ⟨X, hX⟩ : ∃ q, (rd_T31 l y).f1 = q := ⟨_, rfl⟩
          rw [hNj] at y0_
          rw [hX] at y1_ hle hCj
          have hmx : X.length ≤ 17592186043904 := by rw [← hX]; exact HMX.out y.toNat (by omega)
          have HNJ := Aside0.mk hNj
          have HX := Aside0.mk hX
          have HCJ := Aside0.mk hCj
          have HLE := Aside0.mk hle
          have HMJ := Aside0.mk hmx
          clear hNj hX hCj hle hmx
          have HY1 := Aside0.mk (show w.cell? ⟨(ad.add (y.toNat * 2)).block, (ad.add (y.toNat * 2)).off + 1, none⟩ = some (.slice Aj X.length cj) from by
            obtain ⟨ad_, Aj_, cj_, e_, a0_, a1_, -, -⟩ := CountWalk.at_row HR.out (Below.refl _ _) y py qy
            cases e_
            have h2 := (PW.out.p0.be.cell (CountWalk.cell_lt a1_)).trans a1_
            rw [y1_] at h2
            rw [a1_, ← h2])
          obtain ⟨gy, dy, hgy⟩ : ∃ g d, (Lf.getD y.toNat (0, 0, [])).1 = g ∧ (Lf.getD y.toNat (0, 0, [])).2.1 = d := ⟨_, _, rfl, rfl⟩
          have HGY := Aside0.mk (show Lq[y.toNat]? = some (gy, dy, X) from by
            have h2 := HLQ.out.2 y.toNat (by omega)
            have hX : (l.getD y.toNat z31).f1 = X := HX.out
            rw [if_neg (Nat.lt_irrefl _), hX, hgy.1, hgy.2, List.getD_eq_getElem?_getD, List.getElem?_eq_getElem (by have := HLQ.out.1; omega)] at h2
            rw [List.getElem?_eq_getElem (by have := HLQ.out.1; omega)]
            exact congrArg some h2)
          have FCL := Aside0.mk (show ∀ {W : World}, (∀ (j : Nat) (v : Value), cs[j]? = some v → W.cell? ⟨f, j, none⟩ = some v) → W.cell? ⟨f, y.toNat * 2, none⟩ = some (.int .i64 Nj) ∧ W.cell? ⟨f, y.toNat * 2 + 1, none⟩ = some (.slice (some ⟨gy, 0, none⟩) X.length dy) from by
            intro W h
            obtain ⟨h1, h2⟩ := HCS.out.1 y.toNat (by omega)
            have hN : (l.getD y.toNat z31).f0 = Nj := HNJ.out
            have hX : (l.getD y.toNat z31).f1 = X := HX.out
            rw [hN] at h1
            rw [hX, hgy.1, hgy.2] at h2
            exact ⟨h _ _ h1, h _ _ h2⟩)
          obtain ⟨g0_, g1_⟩ := FCL.out (PW.out.p0.at_ (i := 0) rfl).2
          have HGD := Aside0.mk hgy
          clear hgy
          have q2 : y < (l.length : Int) + 1 := by omega
          go_wp2
          refine start_ (n := 10) (S := fun w' => w'.cell? ⟨f, y.toNat * 2, none⟩ = some (.int .i64 Nj) ∧ w'.cell? ⟨f, y.toNat * 2 + 1, none⟩ = some (.slice (some ⟨gy, 0, none⟩) X.length dy) ∧ w'.cell? (ad.add (y.toNat * 2)) = some (.int .i64 Nj) ∧ w'.cell? ⟨(ad.add (y.toNat * 2)).block, (ad.add (y.toNat * 2)).off + 1, none⟩ = some (.slice Aj X.length cj)) (ds := []) #[false, false, false, false, false, false, false, false, false, false] (by kernel_rfl) rfl rfl ⟨g0_, g1_, y0_, y1_⟩ (fun hHeld => ?_)
          have hbd := below_drew (Below.refl wr.heap.size wr)
          have PW2 := Aside0.mk (PW.out.on hbd)
          have HT2 := Aside0.mk (fun {b : Nat} {gv wv : Value} {Z : List Ans} {ix : List Nat} {R : List (Value × List Int)} {T : List (Nat × List Value)} (h : Pile w u5 b gv wv Z ix R T Lf []) => ((HT.out h).on hbd : Pile w wr.drew b gv wv Z ix R T Lq []))
          clear PW HT hbd g0_ g1_ y0_ y1_
          have PW := PW2
          have HT := HT2
          clear PW2 HT2
          generalize wr.drew = ok at PW HT hHeld ⊢
          refine pure_ (i := 0) (N := (some 91)) (v := ?_) (a' := ?_) #[true, false, false, false, false, false, false, false, false, false] rfl rfl (by kernel_rfl) (fun _ _ _ h => h) (Or.inl ⟨by rfl, ?_⟩) ?_ ?_
          rotate_left
          · intro w'
            go_simp
            with_reducible rfl
          rotate_left
          · simp only [Act.put, List.setIfInBounds_toArray, List.set_cons_zero, List.set_cons_succ, i64_w, i32_w]
            rfl
          refine pure_ (i := 1) (N := (some 92)) (v := ?_) (a' := ?_) #[true, true, false, false, false, false, false, false, false, false] rfl rfl (by kernel_rfl) (fun _ _ _ h => h) (Or.inl ⟨by rfl, ?_⟩) ?_ ?_
          rotate_left
          · intro w'
            go_simp
            with_reducible rfl
          rotate_left
          · simp only [Act.put, List.setIfInBounds_toArray, List.set_cons_zero, List.set_cons_succ, i64_w, i32_w]
            rfl
          refine pure_ (i := 2) (N := (some 93)) (v := ?_) (a' := ?_) #[true, true, true, false, false, false, false, false, false, false] rfl rfl (by kernel_rfl) (fun _ _ _ h => h) (Or.inl ⟨by rfl, ?_⟩) ?_ ?_
          rotate_left
          · intro w'
            go_simp
            with_reducible rfl
          rotate_left
          · simp only [Act.put, List.setIfInBounds_toArray, List.set_cons_zero, List.set_cons_succ, i64_w, i32_w]
            rfl
          refine take_ (i := 3) (N := (some 94)) (v := ?_) (a' := ?_) #[true, true, true, true, false, false, false, false, false, false] rfl rfl (by kernel_rfl) (fun _ _ _ h => h) (Or.inl ⟨by rfl, ?_⟩) hHeld ?_ ?_
          rotate_left
          · rintro w' ⟨s0, s1, s2, s3⟩
            go_simp
            with_reducible rfl
          rotate_left
          · simp only [Act.put, List.setIfInBounds_toArray, List.set_cons_zero, List.set_cons_succ, i64_w, i32_w]
            rfl
          refine pure_ (i := 4) (N := (some 95)) (v := ?_) (a' := ?_) #[true, true, true, true, true, false, false, false, false, false] rfl rfl (by kernel_rfl) (fun _ _ _ h => h) (Or.inl ⟨by rfl, ?_⟩) ?_ ?_
          rotate_left
          · intro w'
            go_simp
            with_reducible rfl
          rotate_left
          · simp only [Act.put, List.setIfInBounds_toArray, List.set_cons_zero, List.set_cons_succ, i64_w, i32_w]
            rfl
          refine pure_ (i := 5) (N := (some 96)) (v := ?_) (a' := ?_) #[true, true, true, true, true, true, false, false, false, false] rfl rfl (by kernel_rfl) (fun _ _ _ h => h) (Or.inl ⟨by rfl, ?_⟩) ?_ ?_
          rotate_left
          · intro w'
            go_simp
            with_reducible rfl
          rotate_left
          · simp only [Act.put, List.setIfInBounds_toArray, List.set_cons_zero, List.set_cons_succ, i64_w, i32_w]
            rfl
          refine pure_ (i := 6) (N := (some 97)) (v := ?_) (a' := ?_) #[true, true, true, true, true, true, true, false, false, false] rfl rfl (by kernel_rfl) (fun _ _ _ h => h) (Or.inl ⟨by rfl, ?_⟩) ?_ ?_
          rotate_left
          · intro w'
            go_simp
            with_reducible rfl
          rotate_left
          · simp only [Act.put, List.setIfInBounds_toArray, List.set_cons_zero, List.set_cons_succ, i64_w, i32_w]
            rfl
          refine take_ (i := 7) (N := (some 98)) (v := ?_) (a' := ?_) #[true, true, true, true, true, true, true, true, false, false] rfl rfl (by kernel_rfl) (fun _ _ _ h => h) (Or.inl ⟨by rfl, ?_⟩) hHeld ?_ ?_
          rotate_left
          · rintro w' ⟨s0, s1, s2, s3⟩
            go_simp
            with_reducible rfl
          rotate_left
          · simp only [Act.put, List.setIfInBounds_toArray, List.set_cons_zero, List.set_cons_succ, i64_w, i32_w]
            rfl
          refine one_ (i := 8) (N := (some 99)) #[true, true, true, true, true, true, true, true, true, false] rfl rfl (by kernel_rfl) (by decide) (fun K hK => ?_)
          have P1 := PW.out
          refine goes_ Try.func30 (by kernel_rfl) rfl #[.agg #[.int .i64 Nj, .slice (some ⟨gy, 0, none⟩) X.length dy], .agg #[.int .i64 Nj, .slice Aj X.length cj]] (by rfl) rfl rfl (by (try simp only [List.map_toArray, List.map_cons, List.map_nil]); first | done | rfl) ?_
          have h_ := Lent.kept k Nj gy dy Aj cj X w.heap.size _ (P1.p0.lent y.toNat _ HGY.out) (Kd.C_below HCJ.out P1.p0.be) HLE.out HMJ.out (same_self k _ _ (by have := HMJ.out; omega) (by have := HMJ.out; have := HK.out; omega))
          with_reducible refine h_.mono ?_
          clear h_
          rintro er_ pk ⟨rfl, hb⟩
          refine ⟨_, rfl, ?_⟩
          have PW2 := Aside0.mk (P1.on hb)
          have HT2 := Aside0.mk (fun {b : Nat} {gv wv : Value} {Z : List Ans} {ix : List Nat} {R : List (Value × List Int)} {T : List (Nat × List Value)} (h : Pile w u5 b gv wv Z ix R T Lf []) => ((HT.out h).on hb : Pile w pk b gv wv Z ix R T Lq []))
          obtain ⟨g0_, g1_⟩ := FCL.out (PW2.out.p0.at_ (i := 0) rfl).2
          obtain ⟨ad_, Aj_, cj_, e_, b0_, b1_, -, -⟩ := CountWalk.at_row HR.out PW2.out.p0.be y py qy
          cases e_
          rw [HNJ.out] at b0_
          have b1_ : pk.cell? ⟨(ad.add (y.toNat * 2)).block, (ad.add (y.toNat * 2)).off + 1, none⟩ = some (.slice Aj X.length cj) := (PW2.out.p0.be.cell (CountWalk.cell_lt HY1.out)).trans HY1.out
          refine hK.out _ _ ⟨g0_, g1_, b0_, b1_⟩ (fun hHeld => ?_)
          clear hK K P1 PW HT hb b0_ b1_ g0_ g1_
          have PW := PW2
          have HT := HT2
          clear PW2 HT2
          refine pure_ (i := 9) (N := (some 16)) (v := ?_) (a' := ?_) #[true, true, true, true, true, true, true, true, true, true] rfl rfl (by kernel_rfl) (fun _ _ _ h => h) (Or.inl ⟨by rfl, ?_⟩) ?_ ?_
          rotate_left
          · intro w'
            go_simp
            with_reducible rfl
          rotate_left
          · simp only [Act.put, List.setIfInBounds_toArray, List.set_cons_zero, List.set_cons_succ, i64_w, i32_w]
            rfl
          refine done_ (by kernel_rfl) ?_
          have g0_ := hHeld.1
          have g1_ := hHeld.2.1
          clear hHeld
          go_wp2_with (go_at_call 31; have P1 := PW.out; have h_ := Lent.wipe Nj gy dy X w.heap.size pk (P1.p0.lent y.toNat _ HGY.out) P1.p0.be.size HMJ.out; (with_reducible refine h_.mono ?_); clear h_; rintro er_ pw ⟨rfl, hl, hg⟩; have HT2 := Aside0.mk (fun {b : Nat} {gv wv : Value} {Z : List Ans} {ix : List Nat} {R : List (Value × List Int)} {T : List (Nat × List Value)} (h : Pile w u5 b gv wv Z ix R T Lf []) => ((HT.out h).wiped (i := y.toNat) HGY.out hg hl : Pile w pw b gv wv Z ix R T (Lq.set y.toNat (gy, dy, wipeOf X)) [])); clear PW HT hl hg P1; have HT := HT2; clear HT2)
          go_roundg (l.length - (y + 1).toNat)
          case measure => go_light; have := HY.out; omega
          case rel =>
            go_light
            refine ⟨y + 1, Lq.set y.toNat (gy, dy, wipeOf X), by have hw : wrap64 (y + 1) = y + 1 := (by unfold wrap64; omega); first | rfl | (rw [hw]; done) | (simp [hw]; done), ⟨by omega, by omega, by omega⟩, HT, ⟨by rw [List.length_set]; exact HLQ.out.1, fun i hi => ?_⟩⟩
            rw [List.getD_eq_getElem?_getD, List.getElem?_set]
            by_cases e : y.toNat = i
            · subst e
              have hX : (l.getD y.toNat z31).f1 = X := HX.out
              rw [if_pos rfl, if_pos (by have := HLQ.out.1; omega), if_pos (by omega), hX, HGD.out.1, HGD.out.2]
              rfl
            · have h3 := HLQ.out.2 i hi
              rw [if_neg e, ← List.getD_eq_getElem?_getD, h3]
              by_cases h4 : i < y.toNat
              · rw [if_pos h4, if_pos (by omega)]
              · rw [if_neg h4, if_neg (by omega)]
      
        · have hy : y = l.length := by have := HY.out; omega
          have PW := HT.out P.out
          clear P HT
          have P := Aside0.mk PW
          clear PW
          rw [hy, Int.toNat_natCast] at HLQ
          subst hy
          have HLZ := Aside0.mk (show Lq.length = l.length ∧ ∀ i, i < l.length → (Lq.getD i (0, 0, [])).2.2 = (lz.getD i z31).f1 from ⟨HLQ.out.1, fun i hi => by rw [HLQ.out.2 i hi, if_pos hi, HLL2.out i hi]⟩)
          have HCZ := Aside0.mk (show ∀ i, i < l.length → cs[i * 2]? = some (.int .i64 (lz.getD i z31).f0) ∧ cs[i * 2 + 1]? = some (.slice (some ⟨(Lq.getD i (0, 0, [])).1, 0, none⟩) (lz.getD i z31).f1.length (Lq.getD i (0, 0, [])).2.1) from fun i hi => by
            obtain ⟨h1, h2⟩ := HCS.out.1 i hi
            rw [HLL2.out i hi, HLQ.out.2 i hi]
            refine ⟨h1, ?_⟩
            rw [h2]
            simp [wipeOf])
          have HMZ := Aside0.mk (show ∀ i, i < l.length → (lz.getD i z31).f1.length ≤ 17592186043904 from fun i hi => by rw [HLL2.out i hi]; simpa [wipeOf] using HMX.out i hi)
          have HU6 := Aside0.mk P.out.p0.be.size
          clear HLQ
          obtain ⟨u6, hu6⟩ : ∃ u, u = wr := ⟨_, rfl⟩
          obtain ⟨Lz, hLz⟩ : ∃ L, L = Lq := ⟨_, rfl⟩
          subst hu6 hLz
          go_wp2
          go_loopg [17, 18] l.length (fun q_ s17 s18 wr => ∃ (y : Int) (Lo : List (Nat × Nat × List Int)), s18 = .int .i64 y ∧ Aside0 (0 ≤ y ∧ y ≤ l.length ∧ (q_ : Int) = l.length - y) ∧ Aside0 (∀ {b : Nat} {gv wv : Value} {Z : List Ans} {ix : List Nat} {R : List (Value × List Int)} {T : List (Nat × List Value)}, Pile w u6 b gv wv Z ix R T Lz [] → Pile w wr b gv wv Z ix R T (Lz ++ Lo) []) ∧ Aside0 (Below u6.heap.size u6 wr) ∧ Aside0 (wr.ownsRow u6.heap.size 31 2 s17 y.toNat (fullCells lz Lo y.toNat)) ∧ Aside0 (Lo.length = y.toNat ∧ ∀ i, i < y.toNat → (Lo.getD i (0, 0, [])).2.2 = (lz.getD i z31).f1))
          case atStart => exact ⟨0, [], rfl, ⟨by omega, by omega, by omega⟩, ⟨fun h => by simpa using h⟩, ⟨Below.refl _ _⟩, ⟨own_nil _ _ _ _⟩, ⟨rfl, fun i h => absurd h (Nat.not_lt_zero _)⟩⟩
          case round =>
            obtain ⟨y, Lo, rfl, HY, HT, HBU, HO, HLO⟩ := hrel
            by_cases qy : y < l.length
            · have py : 0 ≤ y := HY.out.1
              have PW := Aside0.mk (HT.out P.out)
              obtain ⟨Nj, hNj⟩ : ∃ q, (lz.getD y.toNat z31).f0 = q := ⟨_, rfl⟩
              obtain ⟨X, hX⟩ : ∃ q, (lz.getD y.toNat z31).f1 = q := ⟨_, rfl⟩
              obtain ⟨XL, hXL⟩ : ∃ q, X.length = q := ⟨_, rfl⟩
              obtain ⟨gy, dy, hgy⟩ : ∃ g d, (Lz.getD y.toNat (0, 0, [])).1 = g ∧ (Lz.getD y.toNat (0, 0, [])).2.1 = d := ⟨_, _, rfl, rfl⟩
              have hmx : X.length ≤ 17592186043904 := by rw [← hX]; exact HMZ.out y.toNat (by omega)
              have HGY := Aside0.mk (show (Lz ++ Lo)[y.toNat]? = some (gy, dy, X) from by
                have h2 := HLZ.out.2 y.toNat (by omega)
                rw [List.getElem?_append_left (by have := HLZ.out.1; omega), List.getElem?_eq_getElem (by have := HLZ.out.1; omega)]
                rw [List.getD_eq_getElem?_getD, List.getElem?_eq_getElem (by have := HLZ.out.1; omega)] at h2 hgy
                refine congrArg some (Prod.ext hgy.1 (Prod.ext hgy.2 ?_))
                exact h2.trans hX)
              have g2_ : wr.cell? ⟨f, y.toNat * 2, none⟩ = some (.int .i64 Nj) ∧ wr.cell? ⟨f, y.toNat * 2 + 1, none⟩ = some (.slice (some ⟨gy, 0, none⟩) XL dy) := by
                obtain ⟨h1, h2⟩ := HCZ.out y.toNat (by omega)
                rw [hNj] at h1
                rw [hX, hXL, hgy.1, hgy.2] at h2
                exact ⟨(PW.out.p0.at_ (i := 0) rfl).2 _ _ h1, (PW.out.p0.at_ (i := 0) rfl).2 _ _ h2⟩
              obtain ⟨g0_, g1_⟩ := g2_
              have HNJ := Aside0.mk hNj; have HX := Aside0.mk hX; have HXL := Aside0.mk hXL; have HMJ := Aside0.mk hmx
              clear hNj hX hXL hgy hmx
              have q2 : y < (l.length : Int) + 1 := by omega
              go_wp2_with (first
                | (go_at_call 24; have P1 := PW.out; have h_ := Lent.lent Nj (some ⟨gy, 0, none⟩) dy X wr (P1.p0.C (j := y.toNat) HGY.out) (P1.p0.cap (j := y.toNat) HGY.out) HMJ.out; rw [HXL.out] at h_; (with_reducible refine h_.mono ?_); clear h_; rintro er_ wl ⟨g, d, rfl, hl, hb⟩; have HT2 := Aside0.mk (fun {b : Nat} {gv wv : Value} {Z : List Ans} {ix : List Nat} {R : List (Value × List Int)} {T : List (Nat × List Value)} (h : Pile w u6 b gv wv Z ix R T Lz []) => ((HT.out h).lend hb hl : Pile w wl b gv wv Z ix R T (Lz ++ Lo ++ [(g, d, X)]) [])); have HO2 := Aside0.mk (pw_own_below2 HO.out hb); have HBL := Aside0.mk (below_then HBU.out HBU.out.size hb); clear HO HT P1 PW hl hb g0_ g1_; have HT := HT2; have HO := HO2; clear HT2 HO2)
                | (at_builtin; refine print_append_cells (w0 := u6) (W := (wl.alloc (.cells #[.int .i64 Nj, .slice (some ⟨g, 0, none⟩) XL d] 31))) u6.heap.size rfl (.tmp 118) (.tmp 120) 38 31 (.agg #[.int .i64 0, .slice none 0 0]) 2 32 rfl Try.underlying38 (by kernel_rfl) rfl (by decide) (by decide) _ y.toNat (fullCells lz Lo y.toNat) [.int .i64 Nj, .slice (some ⟨g, 0, none⟩) XL d] rfl (by first | rfl | (go_simp; done) | (simp [Act.eval]; done)) rfl (by intro u hu; simp at hu; rcases hu with rfl | rfl <;> rfl) (own_alloc HO.out _) (below_alloc HBL.out _) (by have := HBL.out.size; simp; omega) ?c1 ?_; (case c1 => go_light; have := HM.out; omega); intro v1_ w1 ho_ hb_ hg_ hat_; have HOA := Aside0.mk (own_alloc HO.out (.cells #[.int .i64 Nj, .slice (some ⟨g, 0, none⟩) XL d] 31)); have HN := Aside0.mk ho_; have HT2 := Aside0.mk (fun {b : Nat} {gv wv : Value} {Z : List Ans} {ix : List Nat} {R : List (Value × List Int)} {T : List (Nat × List Value)} (h : Pile w u6 b gv wv Z ix R T Lz []) => (Pile.grownNew h ((HT.out h).on (below_alloc (Below.refl _ wl) (.cells #[.int .i64 Nj, .slice (some ⟨g, 0, none⟩) XL d] 31))) hg_ HU6.out (fun k hk => ⟨own_base HOA.out k hk, own_typed HOA.out k hk⟩) : Pile w w1 b gv wv Z ix R T (Lz ++ Lo ++ [(g, d, X)]) [])); have HBN := Aside0.mk hb_; clear ho_ hb_ hg_ hat_ HO HOA HT HBL; have HT := HT2; clear HT2))
              go_roundg (l.length - (y + 1).toNat)
              case measure => go_light; have := HY.out; omega
              case rel =>
                go_light
                refine ⟨y + 1, Lo ++ [(g, d, X)], by have hw : wrap64 (y + 1) = y + 1 := (by unfold wrap64; omega); first | rfl | (rw [hw]; done) | (simp [hw]; done), ⟨by omega, by omega, by omega⟩, ⟨fun h => by have h2 := HT.out h; rwa [List.append_assoc] at h2⟩, HBN, ⟨?_⟩, ⟨by rw [List.length_append, HLO.out.1]; simp; omega, fun i hi => ?_⟩⟩
                · have h2 := HN.out
                  rw [show (y + 1).toNat = y.toNat + 1 by omega]
                  have e1 : fullCells lz (Lo ++ [(g, d, X)]) (y.toNat + 1) = fullCells lz Lo y.toNat ++ [.int .i64 Nj, .slice (some ⟨g, 0, none⟩) XL d] := by
                    have hg : (Lo ++ [(g, d, X)]).getD y.toNat (0, 0, []) = (g, d, X) := by rw [← HLO.out.1]; exact getD_last Lo (g, d, X)
                    show fullCells lz (Lo ++ [(g, d, X)]) y.toNat ++ _ = _
                    rw [fullCells_snoc lz Lo _ _ (by have := HLO.out.1; omega), HNJ.out, HX.out, HXL.out, hg]
                  rw [e1]
                  exact h2
                · by_cases e : i = y.toNat
                  · subst e
                    rw [HX.out, ← HLO.out.1, getD_last]
                  · have h3 := HLO.out.2 i (by omega)
                    rw [← h3, List.getD_eq_getElem?_getD, List.getD_eq_getElem?_getD, List.getElem?_append_left (by have := HLO.out.1; omega)]
          
            · have hy : y = l.length := by have := HY.out; omega
              have PW := HT.out P.out
              clear P HT
              have P := Aside0.mk PW
              clear PW
              rw [hy, Int.toNat_natCast] at HO HLO
              subst hy
              obtain ⟨A_o, c_o, e_⟩ := own_slice HO.out
              subst e_
              have hgl : ∀ i, i < l.length → (Lz ++ Lo).getD i (0, 0, []) = Lz.getD i (0, 0, []) := fun i hi => by
                rw [List.getD_eq_getElem?_getD, List.getD_eq_getElem?_getD, List.getElem?_append_left (by have := HLZ.out.1; omega)]
              have HLZ2 := Aside0.mk (show lz.length ≤ (Lz ++ Lo).length ∧ ∀ i, i < lz.length → ((Lz ++ Lo).getD i (0, 0, [])).2.2 = (lz.getD i z31).f1 from ⟨by rw [List.length_append, HLZ.out.1, HLL.out]; omega, fun i hi => by rw [HLL.out] at hi; rw [hgl i hi]; exact HLZ.out.2 i hi⟩)
              have HCZ2 := Aside0.mk (show ∀ i, i < lz.length → cs[i * 2]? = some (.int .i64 (lz.getD i z31).f0) ∧ cs[i * 2 + 1]? = some (.slice (some ⟨((Lz ++ Lo).getD i (0, 0, [])).1, 0, none⟩) (lz.getD i z31).f1.length ((Lz ++ Lo).getD i (0, 0, [])).2.1) from fun i hi => by rw [HLL.out] at hi; rw [hgl i hi]; exact HCZ.out i hi)
              have hgr : ∀ i, i < l.length → (Lz ++ Lo).getD (l.length + i) (0, 0, []) = Lo.getD i (0, 0, []) := fun i hi => by
                rw [List.getD_eq_getElem?_getD, List.getD_eq_getElem?_getD, List.getElem?_append_right (by have := HLZ.out.1; omega), HLZ.out.1, Nat.add_sub_cancel_left]
              have hco := own_rows_C HO.out HLL.out.symm (by have := HM.out; have := HLL.out; omega) (base2 := w.heap.size) (fun i hi => by
                rw [HLL.out] at hi
                have e : (Lz ++ Lo)[l.length + i]? = some (Lo.getD i (0, 0, [])) := by
                  rw [← hgr i hi, List.getD_eq_getElem?_getD, List.getElem?_eq_getElem (by rw [List.length_append, HLZ.out.1, HLO.out.1]; omega)]
                  rfl
                have h2 := P.out.p0.lent _ _ e
                rwa [HLO.out.2 i hi] at h2)
              have HCO := Aside0.mk hco.1
              have HLCO := Aside0.mk hco.2
              clear hco hgr hgl
              go_wp2_with (first
                        | (go_at_call 32; have P1 := P.out; have h_ := T4.out A_o c_o _ (Kd.C_below HCO.out (Below.refl _ _)) HLCO.out; rw [HLL.out] at h_; (with_reducible refine h_.mono ?_); clear h_; rintro er_ u7 ⟨t0_, t1_, t2_, t3_, rfl, hr, hb⟩; have P2 := P1.toldRows hb hr; obtain ⟨A_12, c_12, e_⟩ := own_slice (hr.own 0 _ rfl); (try simp only at e_); subst e_; obtain ⟨A_13, c_13, e_⟩ := own_slice (hr.own 1 _ rfl); (try simp only at e_); subst e_; obtain ⟨A_14, c_14, e_⟩ := own_slice (hr.own 2 _ rfl); (try simp only at e_); subst e_; obtain ⟨A_15, c_15, e_⟩ := own_slice (hr.own 3 _ rfl); (try simp only at e_); subst e_; clear P P1 hb hr; have P := Aside0.mk P2; clear P2)
                        | (go_at_call 33; have P1 := (P.out.on (below_alloc (Below.refl _ u7) (.cells #[.int .i64 m2, .slice A_12 qz.a.length c_12, .int .i64 m2, .slice A_13 qz.b.length c_13, .int .i64 m2, .slice A_14 qz.c.length c_14, .int .i64 m2, .slice A_15 qz.d.length c_15] 54))); have h_ := T3.out (some ⟨f, 0, none⟩) cf _ (full_C P1.p0 (by have := HM.out; have := HLL.out; omega) HLZ2.out HCZ2.out) (by have := HCF.out; have := HLL.out; omega); rw [HLL.out] at h_; (with_reducible refine h_.mono ?_); clear h_; rintro er_ u8 ⟨t0_, t1_, t2_, t3_, rfl, hr, hb⟩; have P2 := P1.toldRows hb hr; obtain ⟨A_16, c_16, e_⟩ := own_slice (hr.own 0 _ rfl); (try simp only at e_); subst e_; obtain ⟨A_17, c_17, e_⟩ := own_slice (hr.own 1 _ rfl); (try simp only at e_); subst e_; obtain ⟨A_18, c_18, e_⟩ := own_slice (hr.own 2 _ rfl); (try simp only at e_); subst e_; obtain ⟨A_19, c_19, e_⟩ := own_slice (hr.own 3 _ rfl); (try simp only at e_); subst e_; have XO2 := (BoxF.mk (cs := [.int .i64 m2, .slice A_12 qz.a.length c_12, .int .i64 m2, .slice A_13 qz.b.length c_13, .int .i64 m2, .slice A_14 qz.c.length c_14, .int .i64 m2, .slice A_15 qz.d.length c_15]) (blk_new u7 _) (by decide) (by decide) (by decide) (by decide) : BoxF (u7.alloc (.cells #[.int .i64 m2, .slice A_12 qz.a.length c_12, .int .i64 m2, .slice A_13 qz.b.length c_13, .int .i64 m2, .slice A_14 qz.c.length c_14, .int .i64 m2, .slice A_15 qz.d.length c_15] 54)) u7.heap.size [.int .i64 m2, .slice A_12 qz.a.length c_12, .int .i64 m2, .slice A_13 qz.b.length c_13, .int .i64 m2, .slice A_14 qz.c.length c_14, .int .i64 m2, .slice A_15 qz.d.length c_15] 54).on hb; have XO := Aside0.mk XO2; clear XO2; have xo0 := XO.out.at_ 0 (.int .i64 m2) rfl; have xo1 := XO.out.at_ 1 (.slice A_12 qz.a.length c_12) rfl; have xo2 := XO.out.at_ 2 (.int .i64 m2) rfl; have xo3 := XO.out.at_ 3 (.slice A_13 qz.b.length c_13) rfl; have xo4 := XO.out.at_ 4 (.int .i64 m2) rfl; have xo5 := XO.out.at_ 5 (.slice A_14 qz.c.length c_14) rfl; have xo6 := XO.out.at_ 6 (.int .i64 m2) rfl; have xo7 := XO.out.at_ 7 (.slice A_15 qz.d.length c_15) rfl; have qxo := blk_lt XO.out.bx; clear P P1 hb hr; have P := Aside0.mk P2; clear P2)
                        | (go_at_call 34; have P1 := (P.out.on (below_alloc (Below.refl _ u8) (.cells #[.int .i64 m2, .slice A_16 qz.a.length c_16, .int .i64 m2, .slice A_17 qz.b.length c_17, .int .i64 m2, .slice A_18 qz.c.length c_18, .int .i64 m2, .slice A_19 qz.d.length c_19] 54))); have h_ := P1.four k (by simp [HZ1.out, HZ2.out]) (by have := HZ1.out; have := HZ2.out; simp at *; omega) (by have := HK.out; omega) 16 12 17 13 18 14 19 15 m2 e2 A_16 A_12 A_17 A_13 A_18 A_14 A_19 A_15 c_16 c_12 c_17 c_13 c_18 c_14 c_19 c_15 qz.a qz.b qz.c qz.d rfl rfl HQqza.out rfl rfl HQqzb.out rfl rfl HQqzc.out rfl rfl HQqzd.out; (with_reducible refine h_.mono ?_); clear h_; rintro er_ u9 ⟨rfl, gv_, wv_, Z3, P2, hZ3, hF⟩; have HZ3 := Aside0.mk hZ3; clear hZ3; clear xo0 xo1 xo2 xo3 xo4 xo5 xo6 xo7 qxo; clear XO; clear P P1 hF; have P := Aside0.mk P2; clear P2)
                        | (go_at_call 23; have P1 := P.out; have h_ := P1.stands k (by decide) (by have := HZ1.out; have := HZ2.out; have := HZ3.out; simp at *; omega) (by have := HK.out; omega); (with_reducible refine h_.mono ?_); clear h_; rintro er_ vf ⟨rfl, hb⟩; clear P P1; have HFF := Aside0.mk hb; clear hb))
              go_ret
              exact ⟨rfl, HFF.out⟩
theorem law (A0 : Option Addr) (c0 : Nat) (l : List S31) (w : World) (hR : Kd.C k31 w A0 l.length l) (hc0 : l.length ≤ c0) (hm : l.length ≤ 4398046510976) (hx : ∀ i, i < l.length → RefPlain.U64 (l.getD i z31).f1 ∧ (l.getD i z31).f1.length ≤ 17592186043904) :
    Calls Try.prog 8 #[.slice A0 l.length c0] w fun e w' => e = .returned (.bool true) ∧ Below w.heap.size w w' := by
  obtain ⟨k, hk⟩ : ∃ k, k = 17592186043908 := ⟨_, rfl⟩
  obtain ⟨lz, hlz⟩ : ∃ lz, l.map (fun x => (⟨x.f0, wipeOf x.f1⟩ : S31)) = lz := ⟨_, rfl⟩
  have hll : lz.length = l.length := by rw [← hlz, List.length_map]
  have hgz : ∀ i, i < l.length → lz.getD i z31 = ⟨(l.getD i z31).f0, wipeOf (l.getD i z31).f1⟩ := by
    intro i hi
    rw [← hlz, List.getD_eq_getElem?_getD, List.getD_eq_getElem?_getD, List.getElem?_map, List.getElem?_eq_getElem hi]
    rfl
  obtain ⟨m1, q, e1, t1, t2, a1, a2, a3, a4⟩ := CountPlain.count_agree l (by omega) (fun i hi => (hx i hi).1)
  obtain ⟨m2, qz, e2, t3, t4, b1, b2, b3, b4⟩ := CountPlain.count_agree lz (by omega) (fun i hi => by rw [hgz i (by omega)]; exact RefPlain.u64_wiped _)
  exact core k A0 c0 l lz m1 m2 e1 e2 q qz w hR hc0 hm (fun i hi => (hx i hi).2) (by omega) (at_rounds (g := fun k => vivariumlaw02_alive.f k) (fun k => vivariumlaw02_alive.mono k) (by omega) Alive.alive_true) hll hgz t1 t2 t3 t4 a1 a2 a3 a4 b1 b2 b3 b4
end Go.Proofs.Ytlghmadoogblcaa.CountsLaw
end
section
namespace Go.Proofs.Ytlghmadoogblcaa.OpenRow
open Go Go.RowKit Go.Proofs.YtlghmadoogblcaaW.PrintWords Go.Proofs.Ytlghmadoogblcaa.RefPlain
set_option linter.unusedVariables false
theorem open_words {H : Type} {enc : TypeId × Value → H} {P : Program} {w : World} {base n : Nat} {spare : Nat → Bool} {held : Bool} {t e : TypeId} {v : Value} {x : DataW H × List MemPlace} (ht : P.underlying t = some (.slice e)) (he : P.underlying e = some (.int .u64)) (hc : P.cellsOf e = 1)
    (h : DataW.trod enc P w base spare held n t [v] = some x) : ∃ (A : Option Addr) (c : Nat) (zs : List Int), v = .slice A zs.length c ∧ zs.length ≤ c ∧ Kd.C (Kd.int .u64) w A zs.length zs ∧ U64 zs ∧ (zs.length = 0 ∨ ∃ elems rest, elems.length = zs.length ∧ x.1 = .slice elems rest) := by
  rcases Go.ChangeShapes.open_ints ht he hc h with ⟨h1, _⟩ | ⟨a, len, cap, zs, h1, _, hl, hm, hz, hx, hcell, hwf⟩
  · obtain rfl : v = .slice none 0 0 := by simpa using h1
    exact ⟨none, 0, [], rfl, Nat.le_refl _, Kd.C_nil _ _, fun v hv => by simp at hv, .inl rfl⟩
  · obtain rfl : v = .slice (some a) len cap := by simpa using h1
    have hzl : len ≤ zs.length := by rw [hz]; split <;> omega
    have hlen : (zs.take len).length = len := by simp; omega
    refine ⟨some a, cap, zs.take len, by rw [hlen], by rw [hlen]; exact hl, ⟨rfl, by rw [hlen]; simp [maxLen] at hm; omega, fun _ => ⟨a, rfl, fun j p hj => ⟨[.int .u64 p], rfl, rfl, fun i u hu => ?_⟩⟩⟩, fun q hq => ?_, .inr ⟨_, _, ?_, by rw [hx]⟩⟩
    · have hj' : j < len := by
        have := (List.getElem?_eq_some_iff.1 hj).1
        omega
      have hp : zs[j]? = some p := by rwa [List.getElem?_take_of_lt hj'] at hj
      match i, hu with
      | 0, hu =>
        obtain rfl : Value.int .u64 p = u := by simpa using hu
        have := hcell j (by omega)
        rw [List.getD_eq_getElem?_getD, hp] at this
        simpa [Kd.int, Kd.scalar] using this
      | i + 1, hu => simp at hu
    · have := hwf q (List.mem_of_mem_take hq)
      simp [Lit.wf, IntKind.min, IntKind.max, IntKind.bits, IntKind.signed] at this
      omega
    · simp [Go.ChangeShapes.lits]
end Go.Proofs.Ytlghmadoogblcaa.OpenRow
end
section
namespace Go.Proofs.Ytlghmadoogblcaa.OpenAsked
open Go Go.RowKit Go.ChangeShapes Go.WideShapes Go.Proofs.YtlghmadoogblcaaW.PrintWords Go.Proofs.Ytlghmadoogblcaa.RefPlain
set_option linter.unusedVariables false
set_option maxRecDepth 100000
theorem cells3 : Try.prog.cellsOf 3 = 1 := by kernel_rfl
theorem cells29 : Try.prog.cellsOf 29 = 1 := by kernel_rfl
theorem cells31 : Try.prog.cellsOf 31 = 2 := by kernel_rfl
section
variable {H : Type} {enc : TypeId × Value → H} {w : World} {base n : Nat} {spare : Nat → Bool} {held : Bool}
end
end Go.Proofs.Ytlghmadoogblcaa.OpenAsked
end
section
namespace Go.Proofs.Ytlghmadoogblcaa.OpenRows
open Go Go.RowKit Go.ChangeShapes Go.WideShapes Go.Deep Go.Proofs.YtlghmadoogblcaaW.PrintWords Go.Proofs.Ytlghmadoogblcaa.RefPlain Go.Proofs.Ytlghmadoogblcaa.OpenAsked Go.Proofs.Ytlghmadoogblcaa.PW
set_option linter.unusedVariables false
set_option maxRecDepth 100000
theorem mem_all {H : Type} {P : Program} {e : TypeId} {x : DataW H} {q : Nat} (hq : q ∈ DataW.weights P e x) : ∀ (l : List (DataW H)), x ∈ l → q ∈ DataW.weightsAll P e l
  | [], h => by simp at h
  | y :: l, h => by
    unfold DataW.weightsAll
    rcases List.mem_cons.1 h with rfl | h
    · exact List.mem_append_left _ hq
    · exact List.mem_append_right _ (mem_all hq l h)
theorem open_rows {H : Type} {enc : TypeId × Value → H} {w : World} {base : Nat} {held : Bool} {ts : List TypeId} {ds : List (DataW H)} {r : Reach} {b0 : Nat} {v : Value} {d : DataW H} {p : List MemPlace} (hsz : (DataW.weightsEach Try.prog ts ds).all (· ≤ reachBytes) = true) {j : Nat} (ht : ts[j]? = some 38) (hd : ds[j]? = some d)
    (hv : Value.okWide Try.prog w r b0 38 v) (h : DataW.Trod enc Try.prog w base (fun _ => true) held 38 v d p) :
    ∃ (A : Option Addr) (c : Nat) (l : List S31), v = .slice A l.length c ∧ l.length ≤ c ∧ Kd.C k31 w A l.length l ∧ l.length ≤ 4398046510976 ∧ ∀ i, i < l.length → U64 (l.getD i z31).f1 ∧ (l.getD i z31).f1.length ≤ 17592186043904 := by
  obtain ⟨a0, len0, cap0, rfl⟩ := okWide_slice Try.underlying38 hv
  obtain ⟨fuel, hf⟩ := h
  have hb8 : Try.prog.bytesOf 22 = 8 := by kernel_rfl
  have hb32 : Try.prog.bytesOf 31 = 32 := by kernel_rfl
  have h4 : reachBytes = 140737488351232 := rfl
  rcases open_slice_pairs Try.underlying38 Try.underlying31 cells31 rfl rfl cells3 cells29 hf with ⟨h1, _⟩ | ⟨ad, len, cap, m, n, V0, V1, D0, D1, P0, P1, h1, _, hl, hm, hmm, hx, hall⟩
  · have e1 : Value.slice a0 len0 cap0 = .slice none 0 0 := by simpa [Value.cells] using h1
    injection e1 with e1 e2 e3
    subst e1 e2 e3
    exact ⟨none, 0, [], rfl, Nat.le_refl _, Kd.C_nil _ _, Nat.zero_le _, fun i hi => absurd hi (Nat.not_lt_zero _)⟩
  · have e1 : Value.slice a0 len0 cap0 = .slice (some ad) len cap := by simpa [Value.cells] using h1
    injection e1 with e1 e2 e3
    subst e1 e2 e3
    have hlm : len0 ≤ m := by rw [hmm]; split <;> omega
    have hd2 : d = .slice ((List.range len0).map fun i => .agg [D0 i, D1 i]) ((List.range (m - len0)).map fun j => .agg [D0 (len0 + j), D1 (len0 + j)]) := congrArg Prod.fst hx
    have each : ∀ i, i < len0 → ∃ q : Int × Option Addr × Nat × List Int, V0 i = .int .i64 q.1 ∧ V1 i = .slice q.2.1 q.2.2.2.length q.2.2.1 ∧ q.2.2.2.length ≤ q.2.2.1 ∧ Kd.C (Kd.int .u64) w q.2.1 q.2.2.2.length q.2.2.2 ∧ U64 q.2.2.2 ∧ q.2.2.2.length ≤ 17592186043904 := by
      intro i hi
      obtain ⟨_, _, g0, g1⟩ := hall i (by omega)
      have g0' : DataW.trod enc Try.prog w base (fun _ => true) held n 3 [V0 i] = some (D0 i, P0 i) := g0
      have g1' : DataW.trod enc Try.prog w base (fun _ => true) held n 29 [V1 i] = some (D1 i, P1 i) := g1
      obtain ⟨z, e0, _, _⟩ := DataW.trod_int Try.underlying3 g0'
      obtain ⟨A, c, zs, eb, hl2, hC, hu, hdz⟩ := OpenRow.open_words Try.underlying29 Try.underlying22 (by kernel_rfl) g1'
      refine ⟨(z, A, c, zs), by simpa using e0, eb, hl2, hC, hu, ?_⟩
      rcases hdz with h0 | ⟨el, sp, hel, hdz⟩
      · show zs.length ≤ _
        omega
      · have hdz : D1 i = .slice el sp := hdz
        have hw : (el.length + sp.length) * Try.prog.bytesOf 22 ∈ DataW.weights Try.prog 31 (DataW.agg [D0 i, D1 i]) := by
          rw [hdz]
          simp [DataW.weights, Try.underlying31, Try.underlying29, DataW.weightsEach]
        have hw2 : (el.length + sp.length) * Try.prog.bytesOf 22 ∈ DataW.weights Try.prog 38 d := by
          rw [hd2]
          simp only [DataW.weights, Try.underlying38, List.mem_cons, List.mem_append]
          exact .inr (.inl (mem_all hw _ (List.mem_map.2 ⟨i, List.mem_range.2 hi, rfl⟩)))
        have h2 := List.all_eq_true.1 hsz _ (DataW.weights_mem_each ht hd _ hw2)
        rw [hb8] at h2
        have h3 : (el.length + sp.length) * 8 ≤ reachBytes := by simpa using h2
        show zs.length ≤ _
        omega
    obtain ⟨q, hq⟩ := choose_lt each
    have hsl := sized_slice hsz ht (hd.trans (congrArg some hd2)) Try.underlying38
    rw [hb32] at hsl
    have hll : ((List.range len0).map fun i => (⟨(q i).1, (q i).2.2.2⟩ : S31)).length = len0 := by simp
    have hget : ∀ i, i < len0 → ((List.range len0).map fun i => (⟨(q i).1, (q i).2.2.2⟩ : S31))[i]? = some ⟨(q i).1, (q i).2.2.2⟩ := fun i hi => by
      rw [List.getElem?_map, List.getElem?_range hi]
      rfl
    refine ⟨some ad, cap0, (List.range len0).map fun i => ⟨(q i).1, (q i).2.2.2⟩, by rw [hll], by rw [hll]; exact hl, ⟨rfl, by rw [hll]; simp [maxLen] at hm; omega, fun _ => ⟨ad, rfl, fun j p hj => ?_⟩⟩, by rw [hll]; simp at hsl; omega, fun i hi => ?_⟩
    · have hj' : j < len0 := by
        have := (List.getElem?_eq_some_iff.1 hj).1
        omega
      rw [hget j hj'] at hj
      obtain rfl := Option.some.inj hj
      obtain ⟨q1, q2, q3, q4, q5, q6⟩ := hq j hj'
      obtain ⟨k0, k1, _, _⟩ := hall j (by omega)
      rw [q1] at k0
      rw [q2] at k1
      exact ⟨_, rfl, k31_mk w ⟨(q j).1, (q j).2.2.2⟩ q3 q4, fun i u hu => by
        match i, hu with
        | 0, hu => obtain rfl := Option.some.inj hu; exact k0
        | 1, hu => obtain rfl := Option.some.inj hu; exact k1⟩
    · have hi' : i < len0 := by omega
      obtain ⟨q1, q2, q3, q4, q5, q6⟩ := hq i hi'
      rw [List.getD_eq_getElem?_getD, hget i hi']
      exact ⟨q5, q6⟩
end Go.Proofs.Ytlghmadoogblcaa.OpenRows
end
section
namespace Go.Proofs.Ytlghmadoogblcaa.wordsCounts
open Go.ChangeShapes Go.WideShapes Go.ChangeAt Go.RowKit Go.Joins Go.Deep
open Go.ChangeMaps (open_string shut_string)
set_option linter.unusedVariables false
theorem own : ownKnob Try.prog.godebug = none := by kernel_rfl
theorem laidOut : laidOutB Try.prog = true := by kernel_rfl
set_option maxRecDepth 100000 in
theorem lifted (os : Os) (started : os.Started) (H : Type) (enc : TypeId × Value → H) :
    ReturnsInHanded {} Try.checked os 8 .any (Rows.wordsCountsSpec.pre6 enc Try.prog Try.f8 Rows.wordsCountsRow.domain false) (Rows.wordsCountsSpec.post enc Try.prog Try.f8 false true false false) := by
  refine returnsInHanded_of_change_sized (C := Try.checked) own started (by kernel_rfl) Try.func8
    (ChangeSpec.witness6 (enc := enc) (C := Try.checked) false ⟨#[], #[.slice none 0 0], []⟩ 8 (by kernel_rfl) (by kernel_rfl) (by kernel_rfl) (by kernel_rfl)) ?_
  intro W base args ds gs before hval0 hW hcnd hsz0 _
  have hsz : (DataW.weightsEach Try.prog (Try.f8.params.toList ++ Rows.wordsCountsSpec.plain.varTypes Try.prog) (ds ++ gs)).all (· ≤ reachBytes) = true := hsz0
  have hval : ∀ (j : Nat) t v, Try.f8.params[j]? = some t → args[j]? = some v → Value.okWide Try.prog W .any base t v := hval0
  have hW' := hW
  obtain ⟨p, q, hA0, hV, rfl, hfz, hnd⟩ := hW
  have hA : DataW.TrodAll enc Try.prog W 0 (fun _ => true) true Try.f8.params.toList args.toList ds p := hA0
  rw [Try.params8] at hA hval hsz
  obtain ⟨v0, vs0, d0, ds0, p0, q0, hargs, rfl, rfl, h0, r0⟩ := trodAll_cons hA
  obtain ⟨rfl, rfl, rfl⟩ := trodAll_nil r0
  obtain rfl : args = #[v0] := by cases args; simp_all
  obtain ⟨rfl, rfl⟩ := trodVars_none hV
  have k0 := h0
  have lt0 : ∀ x ∈ p0, x.block < W.heap.size := by obtain ⟨m, hm⟩ := k0; exact DataW.trod_lt m _ _ _ hm
  clear hA0 hval0 hsz0
  have done : ∀ W', Below W.heap.size W W' → ∃ r, (Ending.returned (.bool true)) = .returned r ∧ Rows.wordsCountsSpec.post enc Try.prog Try.f8 false true false false W #[v0] r W' := fun W' bel =>
    ⟨_, rfl, _, _, _, [], _, [], hW', trodAll_mk1 (shut_bool Try.underlying4 _), (trodAll_cons_mk (Below.trod laidOut (by kernel_rfl) (of_decide_eq_true (by kernel_rfl)) k0 bel lt0) trodAll_mk0), rfl, bel.frame _, fun h => by cases h⟩
  obtain ⟨A0, c0, l, rfl, hl, hC, hm, hx⟩ := OpenRows.open_rows hsz (j := 0) rfl rfl (hval 0 38 v0 rfl rfl) h0
  refine (CountsLaw.law A0 c0 l W hC hl hm hx).mono fun e W' ⟨he, bel⟩ => ?_
  subst he
  exact done W' bel
theorem over : Rows.wordsCountsRow.holds Try.pinned (OpenSpec.ofChange Rows.wordsCountsSpec) :=
  OpenClaim.holds_of_wide 8 Try.f8 rfl rfl rfl rfl rfl rfl rfl ⟨rfl, rfl, rfl, rfl, rfl⟩ rfl rfl rfl rfl rfl (by kernel_rfl) Try.func8 (by kernel_rfl)
    (of_decide_eq_true (by kernel_rfl)) (by unfold Func.isWrapper; first | (rw [if_pos (by decide +kernel)]; kernel_rfl) | (rw [if_neg (by decide +kernel)]; exact ⟨rfl, rfl⟩))
    (fun os started H enc _ => lifted os started H enc)
theorem proved : Rows.WordsCountsSaid := over
end Go.Proofs.Ytlghmadoogblcaa.wordsCounts
namespace Go.Proofs.Ytlghmadoogblcaa
theorem wordsCounts_holds : Rows.WordsCountsSaid := wordsCounts.proved
#print axioms wordsCounts_holds
end Go.Proofs.Ytlghmadoogblcaa
end
