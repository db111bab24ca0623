/- TreeBack proved, the tied card of its second form: every tree that may be and has a text is read again from its text as it was, at the place 0; two trees that have texts have one text just if they are one tree; what Parse reads out of any text is written as that text; what it does not read has a place within the text and no tree. The library's table reads as its own text lays it (tied); what the arguments hold is bounded as the statement says. -/
import Derived.Test.YtbnonnogkgbpiaaDoorKBack6
section
namespace Go.Proofs.YtbnonnogkgbpiaaDoor.ParseT
open Go Go.RowKit Go.Proofs.YtbnonnogkgbpiaaDoorW.PrintWords Go.Proofs.YtbnonnogkgbpiaaDoorW.PrintLast Go.Proofs.YtbnonnogkgbpiaaDoorW.PrintMore Go.Proofs.YtbnonnogkgbpiaaDoor.PT Go.Proofs.YtbnonnogkgbpiaaDoor.TreePlain Go.Proofs.YtbnonnogkgbpiaaDoor.TreeText Go.Proofs.YtbnonnogkgbpiaaDoor.ParseP Go.Proofs.YtbnonnogkgbpiaaDoor.NdT Go.Proofs.YtbnonnogkgbpiaaDoor.LentT
set_option linter.unusedVariables false
set_option linter.unusedSimpArgs false
structure BK (w W : World) (t3 t4 : Nat) (c3 c4 : Array Value) : Prop where
  b3 : W.heap[t3]? = some (.cells c3 24 (0, 0))
  b4 : W.heap[t4]? = some (.cells c4 24 (0, 0))
  be : Below w.heap.size w W
theorem BK.on {w W W' : World} {t3 t4 : Nat} {c3 c4 : Array Value} (h : BK w W t3 t4 c3 c4) (hb : Below W.heap.size W W') : BK w W' t3 t4 c3 c4 := ⟨blk_below h.b3 hb, blk_below h.b4 hb, h.be.trans (hb.mono h.be.size)⟩
theorem zc {W : World} {t : Nat} {v0 v1 v2 v3 : Value} (h : W.heap[t]? = some (.cells #[v0, v1, v2, v3] 24 (0, 0))) (j : Nat) : W.cell? ⟨t, j, none⟩ = #[v0, v1, v2, v3][j]? ∧ W.frozen? ⟨t, j, none⟩ = false := ⟨blk_cell h j, blk_frozen h j⟩
theorem fill4 {W W1 : World} {t : Nat} (hb : Below W.heap.size W W1) (ht : t = W.heap.size) (hx : W1.heap[t]? = some (.cells #[.int .i64 0, .int .i64 0, .slice none 0 0, .int .i64 0] 24 (0, 0))) (v0 v1 v2 v3 : Value) :
    ((((W1.setCell ⟨t, 0, none⟩ v0).setCell ⟨t, 1, none⟩ v1).setCell ⟨t, 2, none⟩ v2).setCell ⟨t, 3, none⟩ v3).heap[t]? = some (.cells #[v0, v1, v2, v3] 24 (0, 0)) ∧ Below W.heap.size W ((((W1.setCell ⟨t, 0, none⟩ v0).setCell ⟨t, 1, none⟩ v1).setCell ⟨t, 2, none⟩ v2).setCell ⟨t, 3, none⟩ v3) :=
  ⟨blk_put (blk_put (blk_put (blk_put hx 0 _ rfl) 1 _ rfl) 2 _ rfl) 3 _ rfl, below_set (below_set (below_set (below_set hb (by omega)) (by omega)) (by omega)) (by omega)⟩
theorem print_is (st n : Int) (A : Option Addr) (c : Nat) (l : List S49) (rt : Int) (w : World) (p : List UInt8) (e : Int) (sv : ByteArray) (h : printR st n l rt = (p, e)) (hs : (⟨p.toArray⟩ : ByteArray) = sv) (hp : Pow w) (hr : Kd.C k49 w A l.length l) (hc : l.length ≤ c) (hy : Bytes l) :
    Calls Tryd.prog 17 #[.agg #[.int .i64 st, .int .i64 n, .slice A l.length c, .int .i64 rt]] w fun e' w' => e' = .returned (.tuple #[.string sv, .int .i64 e]) ∧ Below w.heap.size w w' := by
  have h1 := print_calls st n A c l rt w hp hr hc hy
  rw [h] at h1
  rw [← hs]
  exact h1
theorem parse_is (s : ByteArray) (w : World) (R : (Int × Int × List S49 × Int) × Int × Int) (h : parse s = R) :
    Calls Tryd.prog 18 #[.string s] w fun e w' => ParseTold w.heap.size R e w' ∧ Below w.heap.size w w' := h ▸ parse_calls s w
theorem like_as (s n : Int) (A : Option Addr) (c : Nat) (l : List S49) (r s' n' : Int) (A' : Option Addr) (c' : Nat) (l' : List S49) (r' : Int) (w : World) (b : Bool) (hb : alikeP s n l r s' n' l' r' = b) (h1 : Kd.C k49 w A l.length l) (h2 : l.length ≤ c) (h3 : Kd.C k49 w A' l'.length l') (h4 : l'.length ≤ c') (hs : l.length ≤ 4611686018427387904) (hk : ∀ x ∈ l, x.f1.length ≤ 4611686018427387904) :
    Calls Tryd.prog 19 #[.agg #[.int .i64 s, .int .i64 n, .slice A l.length c, .int .i64 r], .agg #[.int .i64 s', .int .i64 n', .slice A' l'.length c', .int .i64 r']] w fun e w' => e = .returned (.bool b) ∧ Below w.heap.size w w' := hb ▸ like_calls s n A c l r s' n' A' c' l' r' w h1 h2 h3 h4 hs hk
theorem like_none (A : Option Addr) (c : Nat) (w : World) (h : Kd.C k49 w A 0 []) : Calls Tryd.prog 19 #[.agg #[.int .i64 0, .int .i64 0, .slice A 0 c, .int .i64 0], .agg #[.int .i64 0, .int .i64 0, .slice none 0 0, .int .i64 0]] w fun e w' => e = .returned (.bool true) ∧ Below w.heap.size w w' := like_calls 0 0 A c [] 0 0 0 none 0 [] 0 w h (Nat.zero_le _) (Kd.C_nil _ _) (Nat.zero_le _) (by decide) (fun x hx => by simp at hx)
theorem like_self (s n : Int) (l : List S49) (r : Int) : alikeP s n l r s n l r = true := by simp [alikeP]
theorem text_back (s : ByteArray) : (⟨s.data.toList.toArray⟩ : ByteArray) = s := by
  apply ByteArray.ext
  simp
theorem printR_bad (st n : Int) (l : List S49) (rt : Int) (p : List UInt8) (e : Int) (h : printR st n l rt = (p, e)) (he : e ≠ 0) : p = [] := by
  rcases chk_cases st n rt l with hc | hc
  · rw [printR_eq _ _ _ _ hc] at h
    split at h
    · exact (congrArg Prod.fst h).symm
    · exact absurd (congrArg Prod.snd h).symm he
  · unfold printR at h
    rw [if_neg (by omega)] at h
    exact (congrArg Prod.fst h).symm
theorem same_text (st n : Int) (l : List S49) (rt st' n' : Int) (l' : List S49) (rt' : Int) (hB : Bytes l) (hB' : Bytes l') (p p' : List UInt8) (h : printR st n l rt = (p, 0)) (h' : printR st' n' l' rt' = (p', 0)) : ((⟨p'.toArray⟩ : ByteArray) = ⟨p.toArray⟩) ↔ alikeP st' n' l' rt' st n l rt = true := by
  unfold alikeP
  rw [decide_eq_true_iff]
  constructor
  · intro e
    have a := parse_print st n l rt hB p h
    have b := parse_print st' n' l' rt' hB' p' h'
    rw [e, a] at b
    injection b with b _
    injection b with b1 b
    injection b with b2 b
    injection b with b3 b4
    exact ⟨b1.symm, b2.symm, b4.symm, b3.symm⟩
  · rintro ⟨rfl, rfl, rfl, rfl⟩
    rw [h] at h'
    injection h' with h' _
    rw [h']
set_option maxHeartbeats 32000000 in
set_option maxRecDepth 100000 in
theorem back_walk (st n rt : Int) (A : Option Addr) (c : Nat) (l : List S49) (st' n' rt' : Int) (A' : Option Addr) (c' : Nat) (l' : List S49) (text : ByteArray) (w : World) (hp : Pow w)
    (hr : Kd.C k49 w A l.length l) (hc : l.length ≤ c) (hl : l.length ≤ 2000000) (hk : ∀ j, (nd l j).f1.length ≤ 2000000) (hy : Bytes l) (hr' : Kd.C k49 w A' l'.length l') (hc' : l'.length ≤ c') (hl' : l'.length ≤ 2000000) (hk' : ∀ j, (nd l' j).f1.length ≤ 2000000) (hy' : Bytes l') :
    Calls Tryd.prog 3 #[.agg #[.int .i64 st, .int .i64 n, .slice A l.length c, .int .i64 rt], .agg #[.int .i64 st', .int .i64 n', .slice A' l'.length c', .int .i64 rt'], .string text] w fun e w' => e = .returned (.bool true) ∧ Below w.heap.size w w' := by
  have hu := Tryd.underlying24
  obtain ⟨p1, e1, hP1⟩ : ∃ p e, printR st n l rt = (p, e) := ⟨_, _, rfl⟩
  obtain ⟨p2, e2, hP2⟩ : ∃ p e, printR st' n' l' rt' = (p, e) := ⟨_, _, rfl⟩
  have hkk : ∀ x ∈ l, x.f1.length ≤ 4611686018427387904 := fun x hx => by
    obtain ⟨j, hj, e⟩ := List.mem_iff_getElem.1 hx
    have h1 := hk j
    have h2 : nd l j = x := by unfold nd; rw [List.getD_eq_getElem?_getD, List.getElem?_eq_getElem hj, e]; rfl
    rw [h2] at h1
    omega
  have hkk' : ∀ x ∈ l', x.f1.length ≤ 4611686018427387904 := fun x hx => by
    obtain ⟨j, hj, e⟩ := List.mem_iff_getElem.1 hx
    have h1 := hk' j
    have h2 : nd l' j = x := by unfold nd; rw [List.getD_eq_getElem?_getD, List.getElem?_eq_getElem hj, e]; rfl
    rw [h2] at h1
    omega
  have HP := Aside0.mk hp
  have HC1 := Aside0.mk hr
  have HC2 := Aside0.mk hr'
  have HL1 := Aside0.mk hc
  have HL2 := Aside0.mk hc'
  have HY1 := Aside0.mk hy
  have HY2 := Aside0.mk hy'
  have HM1 := Aside0.mk (And.intro (show l.length ≤ 4611686018427387904 by omega) hkk)
  have HM2 := Aside0.mk (And.intro (show l'.length ≤ 4611686018427387904 by omega) hkk')
  have HB := Aside0.mk (Below.refl w.heap.size w)
  have hSelf := like_self st n l rt
  obtain ⟨s1, hS1⟩ : ∃ s, (⟨p1.toArray⟩ : ByteArray) = s := ⟨_, rfl⟩
  obtain ⟨s2, hS2⟩ : ∃ s, (⟨p2.toArray⟩ : ByteArray) = s := ⟨_, rfl⟩
  obtain ⟨b2, hOth⟩ : ∃ b, alikeP st' n' l' rt' st n l rt = b := ⟨_, rfl⟩
  obtain ⟨⟨⟨st2, n2, l2, rt2⟩, at2, e3⟩, hpar2⟩ : ∃ R, parse text = R := ⟨_, rfl⟩
  have hplace := parse_place text
  rw [hpar2] at hplace
  clear hr hc hl hk hy hr' hc' hl' hk' hy' hp hkk hkk'
  by_cases q3 : e3 = 0
  · subst q3
    have hP3 := print_parse text st2 n2 l2 rt2 at2 hpar2
    obtain rfl := hP3.1
    by_cases q1 : e1 = 0
    · subst q1
      have hpar1 : parse s1 = ((st, n, l, rt), 0, 0) := hS1 ▸ parse_print st n l rt HY1.out p1 hP1
      by_cases q2 : e2 = 0
      · subst q2
        have hst := same_text st n l rt st' n' l' rt' HY1.out HY2.out p1 p2 hP1 hP2
        rw [hS1, hS2, hOth] at hst
        have heq : (s2.toList == s1.toList) = b2 := by rw [ByteArray.toList_eq, ByteArray.toList_eq, Bool.eq_iff_iff, beq_iff_eq, ← hst]; exact ⟨fun h => ByteArray.ext (Array.toList_inj.1 h), fun h => by rw [h]⟩
        clear hst
        go_enter Tryd.func3, Tryd.ntmps3
        go_wp2_with (first
              | ((with_reducible refine gate_dst (N := 3) rfl ?_); refine box_event ?hg3 (N := 3) ?hd3 (cs := #[.int .i64 st, .int .i64 n, .slice A l.length c, .int .i64 rt]) (t := 24) ?hr3 ?_; (case hd3 => rfl); (case hg3 => rfl); (case hr3 => first | (go_simp; done) | (go_simp; rfl)); intro t3 hg_ Wa hbox hb; have n_ := below_step HB.out hb; clear HB; have HB := Aside0.mk n_; have B3 := Aside0.mk hbox; clear n_ hbox hb hg_)
              | ((with_reducible refine gate_dst (N := 4) rfl ?_); refine box_event ?hg4 (N := 4) ?hd4 (cs := #[.int .i64 st', .int .i64 n', .slice A' l'.length c', .int .i64 rt']) (t := 24) ?hr4 ?_; (case hd4 => rfl); (case hg4 => rfl); (case hr4 => first | (go_simp; done) | (go_simp; rfl)); intro t4 hg_ Wb hbox hb; have HK := Aside0.mk (BK.mk (blk_below B3.out hb) hbox (below_step HB.out hb)); clear HB B3 hbox hb hg_; obtain ⟨x0_, _⟩ := zc HK.out.b3 0; obtain ⟨x1_, _⟩ := zc HK.out.b3 1; obtain ⟨x2_, _⟩ := zc HK.out.b3 2; obtain ⟨x3_, _⟩ := zc HK.out.b3 3; obtain ⟨y0_, _⟩ := zc HK.out.b4 0; obtain ⟨y1_, _⟩ := zc HK.out.b4 1; obtain ⟨y2_, _⟩ := zc HK.out.b4 2; obtain ⟨y3_, _⟩ := zc HK.out.b4 3)
              | (go_at_call 16; (with_reducible refine (AliveT.alive_calls _ (HP.out.on HK.out.be)).mono ?_); rintro e_ w2 ⟨rfl, hb⟩; have HQ := Aside0.mk (HK.out.on hb); clear HK; have HK := HQ; clear HQ; clear x0_ x1_ x2_ x3_ y0_ y1_ y2_ y3_; obtain ⟨x0_, _⟩ := zc HK.out.b3 0; obtain ⟨x1_, _⟩ := zc HK.out.b3 1; obtain ⟨x2_, _⟩ := zc HK.out.b3 2; obtain ⟨x3_, _⟩ := zc HK.out.b3 3; obtain ⟨y0_, _⟩ := zc HK.out.b4 0; obtain ⟨y1_, _⟩ := zc HK.out.b4 1; obtain ⟨y2_, _⟩ := zc HK.out.b4 2; obtain ⟨y3_, _⟩ := zc HK.out.b4 3; clear hb)
              | (go_at_call 17; (with_reducible refine (print_is _ _ _ _ _ _ _ _ _ _ hP1 hS1 (HP.out.on HK.out.be) (Kd.C_below HC1.out HK.out.be) HL1.out HY1.out).mono ?_); rintro e_ w2 ⟨rfl, hb⟩; have HQ := Aside0.mk (HK.out.on hb); clear HK; have HK := HQ; clear HQ; clear x0_ x1_ x2_ x3_ y0_ y1_ y2_ y3_; obtain ⟨x0_, _⟩ := zc HK.out.b3 0; obtain ⟨x1_, _⟩ := zc HK.out.b3 1; obtain ⟨x2_, _⟩ := zc HK.out.b3 2; obtain ⟨x3_, _⟩ := zc HK.out.b3 3; obtain ⟨y0_, _⟩ := zc HK.out.b4 0; obtain ⟨y1_, _⟩ := zc HK.out.b4 1; obtain ⟨y2_, _⟩ := zc HK.out.b4 2; obtain ⟨y3_, _⟩ := zc HK.out.b4 3; clear hb)
              | (go_at_call 18; (with_reducible refine (parse_is _ _ _ hpar1).mono ?_); rintro e_ w2 ⟨⟨nv_, K, rfl, hnd⟩, hb⟩; obtain ⟨An, cn, rfl⟩ := own_slice hnd.row; have ND := Aside0.mk hnd; have HQ := Aside0.mk (HK.out.on hb); clear HK; have HK := HQ; clear HQ; clear x0_ x1_ x2_ x3_ y0_ y1_ y2_ y3_; obtain ⟨x0_, _⟩ := zc HK.out.b3 0; obtain ⟨x1_, _⟩ := zc HK.out.b3 1; obtain ⟨x2_, _⟩ := zc HK.out.b3 2; obtain ⟨x3_, _⟩ := zc HK.out.b3 3; obtain ⟨y0_, _⟩ := zc HK.out.b4 0; obtain ⟨y1_, _⟩ := zc HK.out.b4 1; obtain ⟨y2_, _⟩ := zc HK.out.b4 2; obtain ⟨y3_, _⟩ := zc HK.out.b4 3; clear hb hnd)
              | ((with_reducible refine gate_dst (N := 10) rfl ?_); refine box_event ?hg10 (N := 10) ?hd10 (cs := #[.int .i64 0, .int .i64 0, .slice none 0 0, .int .i64 0]) (t := 24) ?hr10 ?_; (case hd10 => rfl); (case hg10 => rfl); (case hr10 => first | (go_simp; done) | (go_simp; rfl)); intro t10 hg_ Wc hbox hb; have HX := Aside0.mk (fill4 hb hg_ hbox (.int .i64 st) (.int .i64 n) (.slice An l.length cn) (.int .i64 rt)); obtain ⟨q0_, r0_⟩ := zc hbox 0; obtain ⟨q1_, r1_⟩ := zc hbox 1; obtain ⟨q2_, r2_⟩ := zc hbox 2; obtain ⟨q3_, r3_⟩ := zc hbox 3; clear hbox hb hg_)
              | ((with_reducible refine gate_store (t := 24) (p := 10) rfl ?_); refine store_event (t := 24) (p := 10) (v := ?vo10_) (w1 := ((((Wc.setCell ⟨t10, 0, none⟩ (.int .i64 st)).setCell ⟨t10, 1, none⟩ (.int .i64 n)).setCell ⟨t10, 2, none⟩ (.slice An l.length cn)).setCell ⟨t10, 3, none⟩ (.int .i64 rt))) ?hgs10 ?hos10 ?hns10 ?hrs10 ?_; (case hos10 => rfl); (case hgs10 => rfl); (case hns10 => rfl); (case hrs10 => first | (go_simp; done) | (go_simp; rfl)); rintro W5 rfl; have hb := HX.out.2; have HQ := Aside0.mk (HK.out.on hb); clear HK; have HK := HQ; clear HQ; clear x0_ x1_ x2_ x3_ y0_ y1_ y2_ y3_; obtain ⟨x0_, _⟩ := zc HK.out.b3 0; obtain ⟨x1_, _⟩ := zc HK.out.b3 1; obtain ⟨x2_, _⟩ := zc HK.out.b3 2; obtain ⟨x3_, _⟩ := zc HK.out.b3 3; obtain ⟨y0_, _⟩ := zc HK.out.b4 0; obtain ⟨y1_, _⟩ := zc HK.out.b4 1; obtain ⟨y2_, _⟩ := zc HK.out.b4 2; obtain ⟨y3_, _⟩ := zc HK.out.b4 3; have HQ2 := Aside0.mk (ND.out.on hb); clear ND; have ND := HQ2; clear HQ2; have B10 := Aside0.mk HX.out.1; clear HX hb q0_ q1_ q2_ q3_ r0_ r1_ r2_ r3_; generalize ((((Wc.setCell ⟨t10, 0, none⟩ (.int .i64 st)).setCell ⟨t10, 1, none⟩ (.int .i64 n)).setCell ⟨t10, 2, none⟩ (.slice An l.length cn)).setCell ⟨t10, 3, none⟩ (.int .i64 rt)) = Wd at *; obtain ⟨u0_, _⟩ := zc B10.out 0; obtain ⟨u1_, _⟩ := zc B10.out 1; obtain ⟨u2_, _⟩ := zc B10.out 2; obtain ⟨u3_, _⟩ := zc B10.out 3)
              | (go_at_call 17; (with_reducible refine (print_is _ _ _ _ _ _ _ _ _ _ hP2 hS2 (HP.out.on HK.out.be) (Kd.C_below HC2.out HK.out.be) HL2.out HY2.out).mono ?_); rintro e_ w2 ⟨rfl, hb⟩; have HQ := Aside0.mk (HK.out.on hb); clear HK; have HK := HQ; clear HQ; clear x0_ x1_ x2_ x3_ y0_ y1_ y2_ y3_; obtain ⟨x0_, _⟩ := zc HK.out.b3 0; obtain ⟨x1_, _⟩ := zc HK.out.b3 1; obtain ⟨x2_, _⟩ := zc HK.out.b3 2; obtain ⟨x3_, _⟩ := zc HK.out.b3 3; obtain ⟨y0_, _⟩ := zc HK.out.b4 0; obtain ⟨y1_, _⟩ := zc HK.out.b4 1; obtain ⟨y2_, _⟩ := zc HK.out.b4 2; obtain ⟨y3_, _⟩ := zc HK.out.b4 3; have HQ := Aside0.mk (blk_below B10.out hb); have HQ2 := Aside0.mk (ND.out.on hb); clear B10 ND hb u0_ u1_ u2_ u3_; have B10 := HQ; have ND := HQ2; clear HQ HQ2; obtain ⟨u0_, _⟩ := zc B10.out 0; obtain ⟨u1_, _⟩ := zc B10.out 1; obtain ⟨u2_, _⟩ := zc B10.out 2; obtain ⟨u3_, _⟩ := zc B10.out 3)
              | (go_at_call 19; (with_reducible refine (like_as _ _ _ _ _ _ _ _ _ _ _ _ _ _ hSelf ND.out.reads.2.1 ND.out.reads.2.2 (Kd.C_below HC1.out HK.out.be) HL1.out HM1.out.1 HM1.out.2).mono ?_); rintro e_ w2 ⟨rfl, hb⟩; have HQ := Aside0.mk (HK.out.on hb); clear HK; have HK := HQ; clear HQ; clear x0_ x1_ x2_ x3_ y0_ y1_ y2_ y3_; obtain ⟨x0_, _⟩ := zc HK.out.b3 0; obtain ⟨x1_, _⟩ := zc HK.out.b3 1; obtain ⟨x2_, _⟩ := zc HK.out.b3 2; obtain ⟨x3_, _⟩ := zc HK.out.b3 3; obtain ⟨y0_, _⟩ := zc HK.out.b4 0; obtain ⟨y1_, _⟩ := zc HK.out.b4 1; obtain ⟨y2_, _⟩ := zc HK.out.b4 2; obtain ⟨y3_, _⟩ := zc HK.out.b4 3; have HQ := Aside0.mk (blk_below B10.out hb); have HQ2 := Aside0.mk (ND.out.on hb); clear B10 ND u0_ u1_ u2_ u3_; have B10 := HQ; have ND := HQ2; clear HQ HQ2; obtain ⟨u0_, _⟩ := zc B10.out 0; obtain ⟨u1_, _⟩ := zc B10.out 1; obtain ⟨u2_, _⟩ := zc B10.out 2; obtain ⟨u3_, _⟩ := zc B10.out 3; clear hb)
              | (go_at_call 19; (with_reducible refine (like_as _ _ _ _ _ _ _ _ _ _ _ _ _ _ hOth (Kd.C_below HC2.out HK.out.be) HL2.out (Kd.C_below HC1.out HK.out.be) HL1.out HM2.out.1 HM2.out.2).mono ?_); rintro e_ w2 ⟨rfl, hb⟩; have HQ := Aside0.mk (HK.out.on hb); clear HK; have HK := HQ; clear HQ; clear x0_ x1_ x2_ x3_ y0_ y1_ y2_ y3_; obtain ⟨x0_, _⟩ := zc HK.out.b3 0; obtain ⟨x1_, _⟩ := zc HK.out.b3 1; obtain ⟨x2_, _⟩ := zc HK.out.b3 2; obtain ⟨x3_, _⟩ := zc HK.out.b3 3; obtain ⟨y0_, _⟩ := zc HK.out.b4 0; obtain ⟨y1_, _⟩ := zc HK.out.b4 1; obtain ⟨y2_, _⟩ := zc HK.out.b4 2; obtain ⟨y3_, _⟩ := zc HK.out.b4 3; have HQ := Aside0.mk (blk_below B10.out hb); have HQ2 := Aside0.mk (ND.out.on hb); clear B10 ND u0_ u1_ u2_ u3_; have B10 := HQ; have ND := HQ2; clear HQ HQ2; obtain ⟨u0_, _⟩ := zc B10.out 0; obtain ⟨u1_, _⟩ := zc B10.out 1; obtain ⟨u2_, _⟩ := zc B10.out 2; obtain ⟨u3_, _⟩ := zc B10.out 3; clear hb)
              | (go_at_call 18; (with_reducible refine (parse_is _ _ _ hpar2).mono ?_); rintro e_ w2 ⟨⟨nv_, K, rfl, hnd⟩, hb⟩; obtain ⟨An, cn, rfl⟩ := own_slice hnd.row; have ND := Aside0.mk hnd; have HQ := Aside0.mk (HK.out.on hb); clear HK; have HK := HQ; clear HQ; clear x0_ x1_ x2_ x3_ y0_ y1_ y2_ y3_; obtain ⟨x0_, _⟩ := zc HK.out.b3 0; obtain ⟨x1_, _⟩ := zc HK.out.b3 1; obtain ⟨x2_, _⟩ := zc HK.out.b3 2; obtain ⟨x3_, _⟩ := zc HK.out.b3 3; obtain ⟨y0_, _⟩ := zc HK.out.b4 0; obtain ⟨y1_, _⟩ := zc HK.out.b4 1; obtain ⟨y2_, _⟩ := zc HK.out.b4 2; obtain ⟨y3_, _⟩ := zc HK.out.b4 3; clear hb hnd)
              | ((with_reducible refine gate_dst (N := 15) rfl ?_); refine box_event ?hg15 (N := 15) ?hd15 (cs := #[.int .i64 0, .int .i64 0, .slice none 0 0, .int .i64 0]) (t := 24) ?hr15 ?_; (case hd15 => rfl); (case hg15 => rfl); (case hr15 => first | (go_simp; done) | (go_simp; rfl)); intro t15 hg_ Wc hbox hb; have HX := Aside0.mk (fill4 hb hg_ hbox (.int .i64 st2) (.int .i64 n2) (.slice An l2.length cn) (.int .i64 rt2)); obtain ⟨q0_, r0_⟩ := zc hbox 0; obtain ⟨q1_, r1_⟩ := zc hbox 1; obtain ⟨q2_, r2_⟩ := zc hbox 2; obtain ⟨q3_, r3_⟩ := zc hbox 3; clear hbox hb hg_)
              | ((with_reducible refine gate_store (t := 24) (p := 15) rfl ?_); refine store_event (t := 24) (p := 15) (v := ?vo15_) (w1 := ((((Wc.setCell ⟨t15, 0, none⟩ (.int .i64 st2)).setCell ⟨t15, 1, none⟩ (.int .i64 n2)).setCell ⟨t15, 2, none⟩ (.slice An l2.length cn)).setCell ⟨t15, 3, none⟩ (.int .i64 rt2))) ?hgs15 ?hos15 ?hns15 ?hrs15 ?_; (case hos15 => rfl); (case hgs15 => rfl); (case hns15 => rfl); (case hrs15 => first | (go_simp; done) | (go_simp; rfl)); rintro W5 rfl; have hb := HX.out.2; have HQ := Aside0.mk (HK.out.on hb); clear HK; have HK := HQ; clear HQ; clear x0_ x1_ x2_ x3_ y0_ y1_ y2_ y3_; obtain ⟨x0_, _⟩ := zc HK.out.b3 0; obtain ⟨x1_, _⟩ := zc HK.out.b3 1; obtain ⟨x2_, _⟩ := zc HK.out.b3 2; obtain ⟨x3_, _⟩ := zc HK.out.b3 3; obtain ⟨y0_, _⟩ := zc HK.out.b4 0; obtain ⟨y1_, _⟩ := zc HK.out.b4 1; obtain ⟨y2_, _⟩ := zc HK.out.b4 2; obtain ⟨y3_, _⟩ := zc HK.out.b4 3; have HQ2 := Aside0.mk (ND.out.on hb); clear ND; have ND := HQ2; clear HQ2; have B10 := Aside0.mk HX.out.1; clear HX hb q0_ q1_ q2_ q3_ r0_ r1_ r2_ r3_; generalize ((((Wc.setCell ⟨t15, 0, none⟩ (.int .i64 st2)).setCell ⟨t15, 1, none⟩ (.int .i64 n2)).setCell ⟨t15, 2, none⟩ (.slice An l2.length cn)).setCell ⟨t15, 3, none⟩ (.int .i64 rt2)) = Wd at *; obtain ⟨u0_, _⟩ := zc B10.out 0; obtain ⟨u1_, _⟩ := zc B10.out 1; obtain ⟨u2_, _⟩ := zc B10.out 2; obtain ⟨u3_, _⟩ := zc B10.out 3)
              | (go_at_call 17; (with_reducible refine (print_is _ _ _ _ _ _ _ _ _ _ hP3.2.2 (text_back text) (HP.out.on HK.out.be) ND.out.reads.2.1 ND.out.reads.2.2 hP3.2.1).mono ?_); rintro e_ w2 ⟨rfl, hb⟩; have HQ := Aside0.mk (HK.out.on hb); clear HK; have HK := HQ; clear HQ; clear x0_ x1_ x2_ x3_ y0_ y1_ y2_ y3_; obtain ⟨x0_, _⟩ := zc HK.out.b3 0; obtain ⟨x1_, _⟩ := zc HK.out.b3 1; obtain ⟨x2_, _⟩ := zc HK.out.b3 2; obtain ⟨x3_, _⟩ := zc HK.out.b3 3; obtain ⟨y0_, _⟩ := zc HK.out.b4 0; obtain ⟨y1_, _⟩ := zc HK.out.b4 1; obtain ⟨y2_, _⟩ := zc HK.out.b4 2; obtain ⟨y3_, _⟩ := zc HK.out.b4 3; clear hb))
        go_ret
        exact ⟨by first | rfl | simp, HK.out.be⟩
      · have q2' : (e2 == 0) = false := by simpa using q2
        go_enter Tryd.func3, Tryd.ntmps3
        go_wp2_with (first
              | ((with_reducible refine gate_dst (N := 3) rfl ?_); refine box_event ?hg3 (N := 3) ?hd3 (cs := #[.int .i64 st, .int .i64 n, .slice A l.length c, .int .i64 rt]) (t := 24) ?hr3 ?_; (case hd3 => rfl); (case hg3 => rfl); (case hr3 => first | (go_simp; done) | (go_simp; rfl)); intro t3 hg_ Wa hbox hb; have n_ := below_step HB.out hb; clear HB; have HB := Aside0.mk n_; have B3 := Aside0.mk hbox; clear n_ hbox hb hg_)
              | ((with_reducible refine gate_dst (N := 4) rfl ?_); refine box_event ?hg4 (N := 4) ?hd4 (cs := #[.int .i64 st', .int .i64 n', .slice A' l'.length c', .int .i64 rt']) (t := 24) ?hr4 ?_; (case hd4 => rfl); (case hg4 => rfl); (case hr4 => first | (go_simp; done) | (go_simp; rfl)); intro t4 hg_ Wb hbox hb; have HK := Aside0.mk (BK.mk (blk_below B3.out hb) hbox (below_step HB.out hb)); clear HB B3 hbox hb hg_; obtain ⟨x0_, _⟩ := zc HK.out.b3 0; obtain ⟨x1_, _⟩ := zc HK.out.b3 1; obtain ⟨x2_, _⟩ := zc HK.out.b3 2; obtain ⟨x3_, _⟩ := zc HK.out.b3 3; obtain ⟨y0_, _⟩ := zc HK.out.b4 0; obtain ⟨y1_, _⟩ := zc HK.out.b4 1; obtain ⟨y2_, _⟩ := zc HK.out.b4 2; obtain ⟨y3_, _⟩ := zc HK.out.b4 3)
              | (go_at_call 16; (with_reducible refine (AliveT.alive_calls _ (HP.out.on HK.out.be)).mono ?_); rintro e_ w2 ⟨rfl, hb⟩; have HQ := Aside0.mk (HK.out.on hb); clear HK; have HK := HQ; clear HQ; clear x0_ x1_ x2_ x3_ y0_ y1_ y2_ y3_; obtain ⟨x0_, _⟩ := zc HK.out.b3 0; obtain ⟨x1_, _⟩ := zc HK.out.b3 1; obtain ⟨x2_, _⟩ := zc HK.out.b3 2; obtain ⟨x3_, _⟩ := zc HK.out.b3 3; obtain ⟨y0_, _⟩ := zc HK.out.b4 0; obtain ⟨y1_, _⟩ := zc HK.out.b4 1; obtain ⟨y2_, _⟩ := zc HK.out.b4 2; obtain ⟨y3_, _⟩ := zc HK.out.b4 3; clear hb)
              | (go_at_call 17; (with_reducible refine (print_is _ _ _ _ _ _ _ _ _ _ hP1 hS1 (HP.out.on HK.out.be) (Kd.C_below HC1.out HK.out.be) HL1.out HY1.out).mono ?_); rintro e_ w2 ⟨rfl, hb⟩; have HQ := Aside0.mk (HK.out.on hb); clear HK; have HK := HQ; clear HQ; clear x0_ x1_ x2_ x3_ y0_ y1_ y2_ y3_; obtain ⟨x0_, _⟩ := zc HK.out.b3 0; obtain ⟨x1_, _⟩ := zc HK.out.b3 1; obtain ⟨x2_, _⟩ := zc HK.out.b3 2; obtain ⟨x3_, _⟩ := zc HK.out.b3 3; obtain ⟨y0_, _⟩ := zc HK.out.b4 0; obtain ⟨y1_, _⟩ := zc HK.out.b4 1; obtain ⟨y2_, _⟩ := zc HK.out.b4 2; obtain ⟨y3_, _⟩ := zc HK.out.b4 3; clear hb)
              | (go_at_call 18; (with_reducible refine (parse_is _ _ _ hpar1).mono ?_); rintro e_ w2 ⟨⟨nv_, K, rfl, hnd⟩, hb⟩; obtain ⟨An, cn, rfl⟩ := own_slice hnd.row; have ND := Aside0.mk hnd; have HQ := Aside0.mk (HK.out.on hb); clear HK; have HK := HQ; clear HQ; clear x0_ x1_ x2_ x3_ y0_ y1_ y2_ y3_; obtain ⟨x0_, _⟩ := zc HK.out.b3 0; obtain ⟨x1_, _⟩ := zc HK.out.b3 1; obtain ⟨x2_, _⟩ := zc HK.out.b3 2; obtain ⟨x3_, _⟩ := zc HK.out.b3 3; obtain ⟨y0_, _⟩ := zc HK.out.b4 0; obtain ⟨y1_, _⟩ := zc HK.out.b4 1; obtain ⟨y2_, _⟩ := zc HK.out.b4 2; obtain ⟨y3_, _⟩ := zc HK.out.b4 3; clear hb hnd)
              | ((with_reducible refine gate_dst (N := 10) rfl ?_); refine box_event ?hg10 (N := 10) ?hd10 (cs := #[.int .i64 0, .int .i64 0, .slice none 0 0, .int .i64 0]) (t := 24) ?hr10 ?_; (case hd10 => rfl); (case hg10 => rfl); (case hr10 => first | (go_simp; done) | (go_simp; rfl)); intro t10 hg_ Wc hbox hb; have HX := Aside0.mk (fill4 hb hg_ hbox (.int .i64 st) (.int .i64 n) (.slice An l.length cn) (.int .i64 rt)); obtain ⟨q0_, r0_⟩ := zc hbox 0; obtain ⟨q1_, r1_⟩ := zc hbox 1; obtain ⟨q2_, r2_⟩ := zc hbox 2; obtain ⟨q3_, r3_⟩ := zc hbox 3; clear hbox hb hg_)
              | ((with_reducible refine gate_store (t := 24) (p := 10) rfl ?_); refine store_event (t := 24) (p := 10) (v := ?vo10_) (w1 := ((((Wc.setCell ⟨t10, 0, none⟩ (.int .i64 st)).setCell ⟨t10, 1, none⟩ (.int .i64 n)).setCell ⟨t10, 2, none⟩ (.slice An l.length cn)).setCell ⟨t10, 3, none⟩ (.int .i64 rt))) ?hgs10 ?hos10 ?hns10 ?hrs10 ?_; (case hos10 => rfl); (case hgs10 => rfl); (case hns10 => rfl); (case hrs10 => first | (go_simp; done) | (go_simp; rfl)); rintro W5 rfl; have hb := HX.out.2; have HQ := Aside0.mk (HK.out.on hb); clear HK; have HK := HQ; clear HQ; clear x0_ x1_ x2_ x3_ y0_ y1_ y2_ y3_; obtain ⟨x0_, _⟩ := zc HK.out.b3 0; obtain ⟨x1_, _⟩ := zc HK.out.b3 1; obtain ⟨x2_, _⟩ := zc HK.out.b3 2; obtain ⟨x3_, _⟩ := zc HK.out.b3 3; obtain ⟨y0_, _⟩ := zc HK.out.b4 0; obtain ⟨y1_, _⟩ := zc HK.out.b4 1; obtain ⟨y2_, _⟩ := zc HK.out.b4 2; obtain ⟨y3_, _⟩ := zc HK.out.b4 3; have HQ2 := Aside0.mk (ND.out.on hb); clear ND; have ND := HQ2; clear HQ2; have B10 := Aside0.mk HX.out.1; clear HX hb q0_ q1_ q2_ q3_ r0_ r1_ r2_ r3_; generalize ((((Wc.setCell ⟨t10, 0, none⟩ (.int .i64 st)).setCell ⟨t10, 1, none⟩ (.int .i64 n)).setCell ⟨t10, 2, none⟩ (.slice An l.length cn)).setCell ⟨t10, 3, none⟩ (.int .i64 rt)) = Wd at *; obtain ⟨u0_, _⟩ := zc B10.out 0; obtain ⟨u1_, _⟩ := zc B10.out 1; obtain ⟨u2_, _⟩ := zc B10.out 2; obtain ⟨u3_, _⟩ := zc B10.out 3)
              | (go_at_call 17; (with_reducible refine (print_is _ _ _ _ _ _ _ _ _ _ hP2 hS2 (HP.out.on HK.out.be) (Kd.C_below HC2.out HK.out.be) HL2.out HY2.out).mono ?_); rintro e_ w2 ⟨rfl, hb⟩; have HQ := Aside0.mk (HK.out.on hb); clear HK; have HK := HQ; clear HQ; clear x0_ x1_ x2_ x3_ y0_ y1_ y2_ y3_; obtain ⟨x0_, _⟩ := zc HK.out.b3 0; obtain ⟨x1_, _⟩ := zc HK.out.b3 1; obtain ⟨x2_, _⟩ := zc HK.out.b3 2; obtain ⟨x3_, _⟩ := zc HK.out.b3 3; obtain ⟨y0_, _⟩ := zc HK.out.b4 0; obtain ⟨y1_, _⟩ := zc HK.out.b4 1; obtain ⟨y2_, _⟩ := zc HK.out.b4 2; obtain ⟨y3_, _⟩ := zc HK.out.b4 3; have HQ := Aside0.mk (blk_below B10.out hb); have HQ2 := Aside0.mk (ND.out.on hb); clear B10 ND hb u0_ u1_ u2_ u3_; have B10 := HQ; have ND := HQ2; clear HQ HQ2; obtain ⟨u0_, _⟩ := zc B10.out 0; obtain ⟨u1_, _⟩ := zc B10.out 1; obtain ⟨u2_, _⟩ := zc B10.out 2; obtain ⟨u3_, _⟩ := zc B10.out 3)
              | (go_at_call 19; (with_reducible refine (like_as _ _ _ _ _ _ _ _ _ _ _ _ _ _ hSelf ND.out.reads.2.1 ND.out.reads.2.2 (Kd.C_below HC1.out HK.out.be) HL1.out HM1.out.1 HM1.out.2).mono ?_); rintro e_ w2 ⟨rfl, hb⟩; have HQ := Aside0.mk (HK.out.on hb); clear HK; have HK := HQ; clear HQ; clear x0_ x1_ x2_ x3_ y0_ y1_ y2_ y3_; obtain ⟨x0_, _⟩ := zc HK.out.b3 0; obtain ⟨x1_, _⟩ := zc HK.out.b3 1; obtain ⟨x2_, _⟩ := zc HK.out.b3 2; obtain ⟨x3_, _⟩ := zc HK.out.b3 3; obtain ⟨y0_, _⟩ := zc HK.out.b4 0; obtain ⟨y1_, _⟩ := zc HK.out.b4 1; obtain ⟨y2_, _⟩ := zc HK.out.b4 2; obtain ⟨y3_, _⟩ := zc HK.out.b4 3; have HQ := Aside0.mk (blk_below B10.out hb); have HQ2 := Aside0.mk (ND.out.on hb); clear B10 ND u0_ u1_ u2_ u3_; have B10 := HQ; have ND := HQ2; clear HQ HQ2; obtain ⟨u0_, _⟩ := zc B10.out 0; obtain ⟨u1_, _⟩ := zc B10.out 1; obtain ⟨u2_, _⟩ := zc B10.out 2; obtain ⟨u3_, _⟩ := zc B10.out 3; clear hb)
              | (go_at_call 18; (with_reducible refine (parse_is _ _ _ hpar2).mono ?_); rintro e_ w2 ⟨⟨nv_, K, rfl, hnd⟩, hb⟩; obtain ⟨An, cn, rfl⟩ := own_slice hnd.row; have ND := Aside0.mk hnd; have HQ := Aside0.mk (HK.out.on hb); clear HK; have HK := HQ; clear HQ; clear x0_ x1_ x2_ x3_ y0_ y1_ y2_ y3_; obtain ⟨x0_, _⟩ := zc HK.out.b3 0; obtain ⟨x1_, _⟩ := zc HK.out.b3 1; obtain ⟨x2_, _⟩ := zc HK.out.b3 2; obtain ⟨x3_, _⟩ := zc HK.out.b3 3; obtain ⟨y0_, _⟩ := zc HK.out.b4 0; obtain ⟨y1_, _⟩ := zc HK.out.b4 1; obtain ⟨y2_, _⟩ := zc HK.out.b4 2; obtain ⟨y3_, _⟩ := zc HK.out.b4 3; clear hb hnd)
              | ((with_reducible refine gate_dst (N := 15) rfl ?_); refine box_event ?hg15 (N := 15) ?hd15 (cs := #[.int .i64 0, .int .i64 0, .slice none 0 0, .int .i64 0]) (t := 24) ?hr15 ?_; (case hd15 => rfl); (case hg15 => rfl); (case hr15 => first | (go_simp; done) | (go_simp; rfl)); intro t15 hg_ Wc hbox hb; have HX := Aside0.mk (fill4 hb hg_ hbox (.int .i64 st2) (.int .i64 n2) (.slice An l2.length cn) (.int .i64 rt2)); obtain ⟨q0_, r0_⟩ := zc hbox 0; obtain ⟨q1_, r1_⟩ := zc hbox 1; obtain ⟨q2_, r2_⟩ := zc hbox 2; obtain ⟨q3_, r3_⟩ := zc hbox 3; clear hbox hb hg_)
              | ((with_reducible refine gate_store (t := 24) (p := 15) rfl ?_); refine store_event (t := 24) (p := 15) (v := ?vo15_) (w1 := ((((Wc.setCell ⟨t15, 0, none⟩ (.int .i64 st2)).setCell ⟨t15, 1, none⟩ (.int .i64 n2)).setCell ⟨t15, 2, none⟩ (.slice An l2.length cn)).setCell ⟨t15, 3, none⟩ (.int .i64 rt2))) ?hgs15 ?hos15 ?hns15 ?hrs15 ?_; (case hos15 => rfl); (case hgs15 => rfl); (case hns15 => rfl); (case hrs15 => first | (go_simp; done) | (go_simp; rfl)); rintro W5 rfl; have hb := HX.out.2; have HQ := Aside0.mk (HK.out.on hb); clear HK; have HK := HQ; clear HQ; clear x0_ x1_ x2_ x3_ y0_ y1_ y2_ y3_; obtain ⟨x0_, _⟩ := zc HK.out.b3 0; obtain ⟨x1_, _⟩ := zc HK.out.b3 1; obtain ⟨x2_, _⟩ := zc HK.out.b3 2; obtain ⟨x3_, _⟩ := zc HK.out.b3 3; obtain ⟨y0_, _⟩ := zc HK.out.b4 0; obtain ⟨y1_, _⟩ := zc HK.out.b4 1; obtain ⟨y2_, _⟩ := zc HK.out.b4 2; obtain ⟨y3_, _⟩ := zc HK.out.b4 3; have HQ2 := Aside0.mk (ND.out.on hb); clear ND; have ND := HQ2; clear HQ2; have B10 := Aside0.mk HX.out.1; clear HX hb q0_ q1_ q2_ q3_ r0_ r1_ r2_ r3_; generalize ((((Wc.setCell ⟨t15, 0, none⟩ (.int .i64 st2)).setCell ⟨t15, 1, none⟩ (.int .i64 n2)).setCell ⟨t15, 2, none⟩ (.slice An l2.length cn)).setCell ⟨t15, 3, none⟩ (.int .i64 rt2)) = Wd at *; obtain ⟨u0_, _⟩ := zc B10.out 0; obtain ⟨u1_, _⟩ := zc B10.out 1; obtain ⟨u2_, _⟩ := zc B10.out 2; obtain ⟨u3_, _⟩ := zc B10.out 3)
              | (go_at_call 17; (with_reducible refine (print_is _ _ _ _ _ _ _ _ _ _ hP3.2.2 (text_back text) (HP.out.on HK.out.be) ND.out.reads.2.1 ND.out.reads.2.2 hP3.2.1).mono ?_); rintro e_ w2 ⟨rfl, hb⟩; have HQ := Aside0.mk (HK.out.on hb); clear HK; have HK := HQ; clear HQ; clear x0_ x1_ x2_ x3_ y0_ y1_ y2_ y3_; obtain ⟨x0_, _⟩ := zc HK.out.b3 0; obtain ⟨x1_, _⟩ := zc HK.out.b3 1; obtain ⟨x2_, _⟩ := zc HK.out.b3 2; obtain ⟨x3_, _⟩ := zc HK.out.b3 3; obtain ⟨y0_, _⟩ := zc HK.out.b4 0; obtain ⟨y1_, _⟩ := zc HK.out.b4 1; obtain ⟨y2_, _⟩ := zc HK.out.b4 2; obtain ⟨y3_, _⟩ := zc HK.out.b4 3; clear hb))
        go_ret
        exact ⟨by first | rfl | simp, HK.out.be⟩
    · have hp1 := printR_bad st n l rt p1 e1 hP1 q1
      subst hp1
      subst hS1
      have q1' : (e1 == 0) = false := by simpa using q1
      go_enter Tryd.func3, Tryd.ntmps3
      go_wp2_with (first
            | ((with_reducible refine gate_dst (N := 3) rfl ?_); refine box_event ?hg3 (N := 3) ?hd3 (cs := #[.int .i64 st, .int .i64 n, .slice A l.length c, .int .i64 rt]) (t := 24) ?hr3 ?_; (case hd3 => rfl); (case hg3 => rfl); (case hr3 => first | (go_simp; done) | (go_simp; rfl)); intro t3 hg_ Wa hbox hb; have n_ := below_step HB.out hb; clear HB; have HB := Aside0.mk n_; have B3 := Aside0.mk hbox; clear n_ hbox hb hg_)
            | ((with_reducible refine gate_dst (N := 4) rfl ?_); refine box_event ?hg4 (N := 4) ?hd4 (cs := #[.int .i64 st', .int .i64 n', .slice A' l'.length c', .int .i64 rt']) (t := 24) ?hr4 ?_; (case hd4 => rfl); (case hg4 => rfl); (case hr4 => first | (go_simp; done) | (go_simp; rfl)); intro t4 hg_ Wb hbox hb; have HK := Aside0.mk (BK.mk (blk_below B3.out hb) hbox (below_step HB.out hb)); clear HB B3 hbox hb hg_; obtain ⟨x0_, _⟩ := zc HK.out.b3 0; obtain ⟨x1_, _⟩ := zc HK.out.b3 1; obtain ⟨x2_, _⟩ := zc HK.out.b3 2; obtain ⟨x3_, _⟩ := zc HK.out.b3 3; obtain ⟨y0_, _⟩ := zc HK.out.b4 0; obtain ⟨y1_, _⟩ := zc HK.out.b4 1; obtain ⟨y2_, _⟩ := zc HK.out.b4 2; obtain ⟨y3_, _⟩ := zc HK.out.b4 3)
            | (go_at_call 16; (with_reducible refine (AliveT.alive_calls _ (HP.out.on HK.out.be)).mono ?_); rintro e_ w2 ⟨rfl, hb⟩; have HQ := Aside0.mk (HK.out.on hb); clear HK; have HK := HQ; clear HQ; clear x0_ x1_ x2_ x3_ y0_ y1_ y2_ y3_; obtain ⟨x0_, _⟩ := zc HK.out.b3 0; obtain ⟨x1_, _⟩ := zc HK.out.b3 1; obtain ⟨x2_, _⟩ := zc HK.out.b3 2; obtain ⟨x3_, _⟩ := zc HK.out.b3 3; obtain ⟨y0_, _⟩ := zc HK.out.b4 0; obtain ⟨y1_, _⟩ := zc HK.out.b4 1; obtain ⟨y2_, _⟩ := zc HK.out.b4 2; obtain ⟨y3_, _⟩ := zc HK.out.b4 3; clear hb)
            | (go_at_call 17; (with_reducible refine (print_is _ _ _ _ _ _ _ _ _ _ hP1 rfl (HP.out.on HK.out.be) (Kd.C_below HC1.out HK.out.be) HL1.out HY1.out).mono ?_); rintro e_ w2 ⟨rfl, hb⟩; have HQ := Aside0.mk (HK.out.on hb); clear HK; have HK := HQ; clear HQ; clear x0_ x1_ x2_ x3_ y0_ y1_ y2_ y3_; obtain ⟨x0_, _⟩ := zc HK.out.b3 0; obtain ⟨x1_, _⟩ := zc HK.out.b3 1; obtain ⟨x2_, _⟩ := zc HK.out.b3 2; obtain ⟨x3_, _⟩ := zc HK.out.b3 3; obtain ⟨y0_, _⟩ := zc HK.out.b4 0; obtain ⟨y1_, _⟩ := zc HK.out.b4 1; obtain ⟨y2_, _⟩ := zc HK.out.b4 2; obtain ⟨y3_, _⟩ := zc HK.out.b4 3; clear hb)
            | (go_at_call 18; (with_reducible refine (parse_is _ _ _ hpar2).mono ?_); rintro e_ w2 ⟨⟨nv_, K, rfl, hnd⟩, hb⟩; obtain ⟨An, cn, rfl⟩ := own_slice hnd.row; have ND := Aside0.mk hnd; have HQ := Aside0.mk (HK.out.on hb); clear HK; have HK := HQ; clear HQ; clear x0_ x1_ x2_ x3_ y0_ y1_ y2_ y3_; obtain ⟨x0_, _⟩ := zc HK.out.b3 0; obtain ⟨x1_, _⟩ := zc HK.out.b3 1; obtain ⟨x2_, _⟩ := zc HK.out.b3 2; obtain ⟨x3_, _⟩ := zc HK.out.b3 3; obtain ⟨y0_, _⟩ := zc HK.out.b4 0; obtain ⟨y1_, _⟩ := zc HK.out.b4 1; obtain ⟨y2_, _⟩ := zc HK.out.b4 2; obtain ⟨y3_, _⟩ := zc HK.out.b4 3; clear hb hnd)
            | ((with_reducible refine gate_dst (N := 15) rfl ?_); refine box_event ?hg15 (N := 15) ?hd15 (cs := #[.int .i64 0, .int .i64 0, .slice none 0 0, .int .i64 0]) (t := 24) ?hr15 ?_; (case hd15 => rfl); (case hg15 => rfl); (case hr15 => first | (go_simp; done) | (go_simp; rfl)); intro t15 hg_ Wc hbox hb; have HX := Aside0.mk (fill4 hb hg_ hbox (.int .i64 st2) (.int .i64 n2) (.slice An l2.length cn) (.int .i64 rt2)); obtain ⟨q0_, r0_⟩ := zc hbox 0; obtain ⟨q1_, r1_⟩ := zc hbox 1; obtain ⟨q2_, r2_⟩ := zc hbox 2; obtain ⟨q3_, r3_⟩ := zc hbox 3; clear hbox hb hg_)
            | ((with_reducible refine gate_store (t := 24) (p := 15) rfl ?_); refine store_event (t := 24) (p := 15) (v := ?vo15_) (w1 := ((((Wc.setCell ⟨t15, 0, none⟩ (.int .i64 st2)).setCell ⟨t15, 1, none⟩ (.int .i64 n2)).setCell ⟨t15, 2, none⟩ (.slice An l2.length cn)).setCell ⟨t15, 3, none⟩ (.int .i64 rt2))) ?hgs15 ?hos15 ?hns15 ?hrs15 ?_; (case hos15 => rfl); (case hgs15 => rfl); (case hns15 => rfl); (case hrs15 => first | (go_simp; done) | (go_simp; rfl)); rintro W5 rfl; have hb := HX.out.2; have HQ := Aside0.mk (HK.out.on hb); clear HK; have HK := HQ; clear HQ; clear x0_ x1_ x2_ x3_ y0_ y1_ y2_ y3_; obtain ⟨x0_, _⟩ := zc HK.out.b3 0; obtain ⟨x1_, _⟩ := zc HK.out.b3 1; obtain ⟨x2_, _⟩ := zc HK.out.b3 2; obtain ⟨x3_, _⟩ := zc HK.out.b3 3; obtain ⟨y0_, _⟩ := zc HK.out.b4 0; obtain ⟨y1_, _⟩ := zc HK.out.b4 1; obtain ⟨y2_, _⟩ := zc HK.out.b4 2; obtain ⟨y3_, _⟩ := zc HK.out.b4 3; have HQ2 := Aside0.mk (ND.out.on hb); clear ND; have ND := HQ2; clear HQ2; have B10 := Aside0.mk HX.out.1; clear HX hb q0_ q1_ q2_ q3_ r0_ r1_ r2_ r3_; generalize ((((Wc.setCell ⟨t15, 0, none⟩ (.int .i64 st2)).setCell ⟨t15, 1, none⟩ (.int .i64 n2)).setCell ⟨t15, 2, none⟩ (.slice An l2.length cn)).setCell ⟨t15, 3, none⟩ (.int .i64 rt2)) = Wd at *; obtain ⟨u0_, _⟩ := zc B10.out 0; obtain ⟨u1_, _⟩ := zc B10.out 1; obtain ⟨u2_, _⟩ := zc B10.out 2; obtain ⟨u3_, _⟩ := zc B10.out 3)
            | (go_at_call 17; (with_reducible refine (print_is _ _ _ _ _ _ _ _ _ _ hP3.2.2 (text_back text) (HP.out.on HK.out.be) ND.out.reads.2.1 ND.out.reads.2.2 hP3.2.1).mono ?_); rintro e_ w2 ⟨rfl, hb⟩; have HQ := Aside0.mk (HK.out.on hb); clear HK; have HK := HQ; clear HQ; clear x0_ x1_ x2_ x3_ y0_ y1_ y2_ y3_; obtain ⟨x0_, _⟩ := zc HK.out.b3 0; obtain ⟨x1_, _⟩ := zc HK.out.b3 1; obtain ⟨x2_, _⟩ := zc HK.out.b3 2; obtain ⟨x3_, _⟩ := zc HK.out.b3 3; obtain ⟨y0_, _⟩ := zc HK.out.b4 0; obtain ⟨y1_, _⟩ := zc HK.out.b4 1; obtain ⟨y2_, _⟩ := zc HK.out.b4 2; obtain ⟨y3_, _⟩ := zc HK.out.b4 3; clear hb))
      go_ret
      exact ⟨by first | rfl | simp, HK.out.be⟩
  · have hz := parse_bad text (by rw [hpar2]; exact q3)
    rw [hpar2] at hz
    obtain ⟨rfl, rfl, rfl, rfl⟩ : st2 = 0 ∧ n2 = 0 ∧ l2 = [] ∧ rt2 = 0 := by injection hz with h1 hz; injection hz with h2 hz; injection hz with h3 h4; exact ⟨h1, h2, h3, h4⟩
    have q3' : (e3 == 0) = false := by simpa using q3
    have g0 : at2 ≥ 0 := hplace.1
    have g1 : at2 ≤ (text.size : Int) := hplace.2
    by_cases q1 : e1 = 0
    · subst q1
      have hpar1 : parse s1 = ((st, n, l, rt), 0, 0) := hS1 ▸ parse_print st n l rt HY1.out p1 hP1
      by_cases q2 : e2 = 0
      · subst q2
        have hst := same_text st n l rt st' n' l' rt' HY1.out HY2.out p1 p2 hP1 hP2
        rw [hS1, hS2, hOth] at hst
        have heq : (s2.toList == s1.toList) = b2 := by rw [ByteArray.toList_eq, ByteArray.toList_eq, Bool.eq_iff_iff, beq_iff_eq, ← hst]; exact ⟨fun h => ByteArray.ext (Array.toList_inj.1 h), fun h => by rw [h]⟩
        clear hst
        go_enter Tryd.func3, Tryd.ntmps3
        go_wp2_with (first
              | ((with_reducible refine gate_dst (N := 3) rfl ?_); refine box_event ?hg3 (N := 3) ?hd3 (cs := #[.int .i64 st, .int .i64 n, .slice A l.length c, .int .i64 rt]) (t := 24) ?hr3 ?_; (case hd3 => rfl); (case hg3 => rfl); (case hr3 => first | (go_simp; done) | (go_simp; rfl)); intro t3 hg_ Wa hbox hb; have n_ := below_step HB.out hb; clear HB; have HB := Aside0.mk n_; have B3 := Aside0.mk hbox; clear n_ hbox hb hg_)
              | ((with_reducible refine gate_dst (N := 4) rfl ?_); refine box_event ?hg4 (N := 4) ?hd4 (cs := #[.int .i64 st', .int .i64 n', .slice A' l'.length c', .int .i64 rt']) (t := 24) ?hr4 ?_; (case hd4 => rfl); (case hg4 => rfl); (case hr4 => first | (go_simp; done) | (go_simp; rfl)); intro t4 hg_ Wb hbox hb; have HK := Aside0.mk (BK.mk (blk_below B3.out hb) hbox (below_step HB.out hb)); clear HB B3 hbox hb hg_; obtain ⟨x0_, _⟩ := zc HK.out.b3 0; obtain ⟨x1_, _⟩ := zc HK.out.b3 1; obtain ⟨x2_, _⟩ := zc HK.out.b3 2; obtain ⟨x3_, _⟩ := zc HK.out.b3 3; obtain ⟨y0_, _⟩ := zc HK.out.b4 0; obtain ⟨y1_, _⟩ := zc HK.out.b4 1; obtain ⟨y2_, _⟩ := zc HK.out.b4 2; obtain ⟨y3_, _⟩ := zc HK.out.b4 3)
              | (go_at_call 16; (with_reducible refine (AliveT.alive_calls _ (HP.out.on HK.out.be)).mono ?_); rintro e_ w2 ⟨rfl, hb⟩; have HQ := Aside0.mk (HK.out.on hb); clear HK; have HK := HQ; clear HQ; clear x0_ x1_ x2_ x3_ y0_ y1_ y2_ y3_; obtain ⟨x0_, _⟩ := zc HK.out.b3 0; obtain ⟨x1_, _⟩ := zc HK.out.b3 1; obtain ⟨x2_, _⟩ := zc HK.out.b3 2; obtain ⟨x3_, _⟩ := zc HK.out.b3 3; obtain ⟨y0_, _⟩ := zc HK.out.b4 0; obtain ⟨y1_, _⟩ := zc HK.out.b4 1; obtain ⟨y2_, _⟩ := zc HK.out.b4 2; obtain ⟨y3_, _⟩ := zc HK.out.b4 3; clear hb)
              | (go_at_call 17; (with_reducible refine (print_is _ _ _ _ _ _ _ _ _ _ hP1 hS1 (HP.out.on HK.out.be) (Kd.C_below HC1.out HK.out.be) HL1.out HY1.out).mono ?_); rintro e_ w2 ⟨rfl, hb⟩; have HQ := Aside0.mk (HK.out.on hb); clear HK; have HK := HQ; clear HQ; clear x0_ x1_ x2_ x3_ y0_ y1_ y2_ y3_; obtain ⟨x0_, _⟩ := zc HK.out.b3 0; obtain ⟨x1_, _⟩ := zc HK.out.b3 1; obtain ⟨x2_, _⟩ := zc HK.out.b3 2; obtain ⟨x3_, _⟩ := zc HK.out.b3 3; obtain ⟨y0_, _⟩ := zc HK.out.b4 0; obtain ⟨y1_, _⟩ := zc HK.out.b4 1; obtain ⟨y2_, _⟩ := zc HK.out.b4 2; obtain ⟨y3_, _⟩ := zc HK.out.b4 3; clear hb)
              | (go_at_call 18; (with_reducible refine (parse_is _ _ _ hpar1).mono ?_); rintro e_ w2 ⟨⟨nv_, K, rfl, hnd⟩, hb⟩; obtain ⟨An, cn, rfl⟩ := own_slice hnd.row; have ND := Aside0.mk hnd; have HQ := Aside0.mk (HK.out.on hb); clear HK; have HK := HQ; clear HQ; clear x0_ x1_ x2_ x3_ y0_ y1_ y2_ y3_; obtain ⟨x0_, _⟩ := zc HK.out.b3 0; obtain ⟨x1_, _⟩ := zc HK.out.b3 1; obtain ⟨x2_, _⟩ := zc HK.out.b3 2; obtain ⟨x3_, _⟩ := zc HK.out.b3 3; obtain ⟨y0_, _⟩ := zc HK.out.b4 0; obtain ⟨y1_, _⟩ := zc HK.out.b4 1; obtain ⟨y2_, _⟩ := zc HK.out.b4 2; obtain ⟨y3_, _⟩ := zc HK.out.b4 3; clear hb hnd)
              | ((with_reducible refine gate_dst (N := 10) rfl ?_); refine box_event ?hg10 (N := 10) ?hd10 (cs := #[.int .i64 0, .int .i64 0, .slice none 0 0, .int .i64 0]) (t := 24) ?hr10 ?_; (case hd10 => rfl); (case hg10 => rfl); (case hr10 => first | (go_simp; done) | (go_simp; rfl)); intro t10 hg_ Wc hbox hb; have HX := Aside0.mk (fill4 hb hg_ hbox (.int .i64 st) (.int .i64 n) (.slice An l.length cn) (.int .i64 rt)); obtain ⟨q0_, r0_⟩ := zc hbox 0; obtain ⟨q1_, r1_⟩ := zc hbox 1; obtain ⟨q2_, r2_⟩ := zc hbox 2; obtain ⟨q3_, r3_⟩ := zc hbox 3; clear hbox hb hg_)
              | ((with_reducible refine gate_store (t := 24) (p := 10) rfl ?_); refine store_event (t := 24) (p := 10) (v := ?vo10_) (w1 := ((((Wc.setCell ⟨t10, 0, none⟩ (.int .i64 st)).setCell ⟨t10, 1, none⟩ (.int .i64 n)).setCell ⟨t10, 2, none⟩ (.slice An l.length cn)).setCell ⟨t10, 3, none⟩ (.int .i64 rt))) ?hgs10 ?hos10 ?hns10 ?hrs10 ?_; (case hos10 => rfl); (case hgs10 => rfl); (case hns10 => rfl); (case hrs10 => first | (go_simp; done) | (go_simp; rfl)); rintro W5 rfl; have hb := HX.out.2; have HQ := Aside0.mk (HK.out.on hb); clear HK; have HK := HQ; clear HQ; clear x0_ x1_ x2_ x3_ y0_ y1_ y2_ y3_; obtain ⟨x0_, _⟩ := zc HK.out.b3 0; obtain ⟨x1_, _⟩ := zc HK.out.b3 1; obtain ⟨x2_, _⟩ := zc HK.out.b3 2; obtain ⟨x3_, _⟩ := zc HK.out.b3 3; obtain ⟨y0_, _⟩ := zc HK.out.b4 0; obtain ⟨y1_, _⟩ := zc HK.out.b4 1; obtain ⟨y2_, _⟩ := zc HK.out.b4 2; obtain ⟨y3_, _⟩ := zc HK.out.b4 3; have HQ2 := Aside0.mk (ND.out.on hb); clear ND; have ND := HQ2; clear HQ2; have B10 := Aside0.mk HX.out.1; clear HX hb q0_ q1_ q2_ q3_ r0_ r1_ r2_ r3_; generalize ((((Wc.setCell ⟨t10, 0, none⟩ (.int .i64 st)).setCell ⟨t10, 1, none⟩ (.int .i64 n)).setCell ⟨t10, 2, none⟩ (.slice An l.length cn)).setCell ⟨t10, 3, none⟩ (.int .i64 rt)) = Wd at *; obtain ⟨u0_, _⟩ := zc B10.out 0; obtain ⟨u1_, _⟩ := zc B10.out 1; obtain ⟨u2_, _⟩ := zc B10.out 2; obtain ⟨u3_, _⟩ := zc B10.out 3)
              | (go_at_call 17; (with_reducible refine (print_is _ _ _ _ _ _ _ _ _ _ hP2 hS2 (HP.out.on HK.out.be) (Kd.C_below HC2.out HK.out.be) HL2.out HY2.out).mono ?_); rintro e_ w2 ⟨rfl, hb⟩; have HQ := Aside0.mk (HK.out.on hb); clear HK; have HK := HQ; clear HQ; clear x0_ x1_ x2_ x3_ y0_ y1_ y2_ y3_; obtain ⟨x0_, _⟩ := zc HK.out.b3 0; obtain ⟨x1_, _⟩ := zc HK.out.b3 1; obtain ⟨x2_, _⟩ := zc HK.out.b3 2; obtain ⟨x3_, _⟩ := zc HK.out.b3 3; obtain ⟨y0_, _⟩ := zc HK.out.b4 0; obtain ⟨y1_, _⟩ := zc HK.out.b4 1; obtain ⟨y2_, _⟩ := zc HK.out.b4 2; obtain ⟨y3_, _⟩ := zc HK.out.b4 3; have HQ := Aside0.mk (blk_below B10.out hb); have HQ2 := Aside0.mk (ND.out.on hb); clear B10 ND hb u0_ u1_ u2_ u3_; have B10 := HQ; have ND := HQ2; clear HQ HQ2; obtain ⟨u0_, _⟩ := zc B10.out 0; obtain ⟨u1_, _⟩ := zc B10.out 1; obtain ⟨u2_, _⟩ := zc B10.out 2; obtain ⟨u3_, _⟩ := zc B10.out 3)
              | (go_at_call 19; (with_reducible refine (like_as _ _ _ _ _ _ _ _ _ _ _ _ _ _ hSelf ND.out.reads.2.1 ND.out.reads.2.2 (Kd.C_below HC1.out HK.out.be) HL1.out HM1.out.1 HM1.out.2).mono ?_); rintro e_ w2 ⟨rfl, hb⟩; have HQ := Aside0.mk (HK.out.on hb); clear HK; have HK := HQ; clear HQ; clear x0_ x1_ x2_ x3_ y0_ y1_ y2_ y3_; obtain ⟨x0_, _⟩ := zc HK.out.b3 0; obtain ⟨x1_, _⟩ := zc HK.out.b3 1; obtain ⟨x2_, _⟩ := zc HK.out.b3 2; obtain ⟨x3_, _⟩ := zc HK.out.b3 3; obtain ⟨y0_, _⟩ := zc HK.out.b4 0; obtain ⟨y1_, _⟩ := zc HK.out.b4 1; obtain ⟨y2_, _⟩ := zc HK.out.b4 2; obtain ⟨y3_, _⟩ := zc HK.out.b4 3; have HQ := Aside0.mk (blk_below B10.out hb); have HQ2 := Aside0.mk (ND.out.on hb); clear B10 ND u0_ u1_ u2_ u3_; have B10 := HQ; have ND := HQ2; clear HQ HQ2; obtain ⟨u0_, _⟩ := zc B10.out 0; obtain ⟨u1_, _⟩ := zc B10.out 1; obtain ⟨u2_, _⟩ := zc B10.out 2; obtain ⟨u3_, _⟩ := zc B10.out 3; clear hb)
              | (go_at_call 19; (with_reducible refine (like_as _ _ _ _ _ _ _ _ _ _ _ _ _ _ hOth (Kd.C_below HC2.out HK.out.be) HL2.out (Kd.C_below HC1.out HK.out.be) HL1.out HM2.out.1 HM2.out.2).mono ?_); rintro e_ w2 ⟨rfl, hb⟩; have HQ := Aside0.mk (HK.out.on hb); clear HK; have HK := HQ; clear HQ; clear x0_ x1_ x2_ x3_ y0_ y1_ y2_ y3_; obtain ⟨x0_, _⟩ := zc HK.out.b3 0; obtain ⟨x1_, _⟩ := zc HK.out.b3 1; obtain ⟨x2_, _⟩ := zc HK.out.b3 2; obtain ⟨x3_, _⟩ := zc HK.out.b3 3; obtain ⟨y0_, _⟩ := zc HK.out.b4 0; obtain ⟨y1_, _⟩ := zc HK.out.b4 1; obtain ⟨y2_, _⟩ := zc HK.out.b4 2; obtain ⟨y3_, _⟩ := zc HK.out.b4 3; have HQ := Aside0.mk (blk_below B10.out hb); have HQ2 := Aside0.mk (ND.out.on hb); clear B10 ND u0_ u1_ u2_ u3_; have B10 := HQ; have ND := HQ2; clear HQ HQ2; obtain ⟨u0_, _⟩ := zc B10.out 0; obtain ⟨u1_, _⟩ := zc B10.out 1; obtain ⟨u2_, _⟩ := zc B10.out 2; obtain ⟨u3_, _⟩ := zc B10.out 3; clear hb)
              | (go_at_call 18; (with_reducible refine (parse_is _ _ _ hpar2).mono ?_); rintro e_ w2 ⟨⟨nv_, K, rfl, hnd⟩, hb⟩; obtain ⟨An, cn, rfl⟩ := own_slice hnd.row; have ND := Aside0.mk hnd; have HQ := Aside0.mk (HK.out.on hb); clear HK; have HK := HQ; clear HQ; clear x0_ x1_ x2_ x3_ y0_ y1_ y2_ y3_; obtain ⟨x0_, _⟩ := zc HK.out.b3 0; obtain ⟨x1_, _⟩ := zc HK.out.b3 1; obtain ⟨x2_, _⟩ := zc HK.out.b3 2; obtain ⟨x3_, _⟩ := zc HK.out.b3 3; obtain ⟨y0_, _⟩ := zc HK.out.b4 0; obtain ⟨y1_, _⟩ := zc HK.out.b4 1; obtain ⟨y2_, _⟩ := zc HK.out.b4 2; obtain ⟨y3_, _⟩ := zc HK.out.b4 3; clear hb hnd)
              | ((with_reducible refine gate_dst (N := 15) rfl ?_); refine box_event ?hg15 (N := 15) ?hd15 (cs := #[.int .i64 0, .int .i64 0, .slice none 0 0, .int .i64 0]) (t := 24) ?hr15 ?_; (case hd15 => rfl); (case hg15 => rfl); (case hr15 => first | (go_simp; done) | (go_simp; rfl)); intro t15 hg_ Wc hbox hb; have HX := Aside0.mk (fill4 hb hg_ hbox (.int .i64 0) (.int .i64 0) (.slice An 0 cn) (.int .i64 0)); obtain ⟨q0_, r0_⟩ := zc hbox 0; obtain ⟨q1_, r1_⟩ := zc hbox 1; obtain ⟨q2_, r2_⟩ := zc hbox 2; obtain ⟨q3_, r3_⟩ := zc hbox 3; clear hbox hb hg_)
              | ((with_reducible refine gate_store (t := 24) (p := 15) rfl ?_); refine store_event (t := 24) (p := 15) (v := ?vo15_) (w1 := ((((Wc.setCell ⟨t15, 0, none⟩ (.int .i64 0)).setCell ⟨t15, 1, none⟩ (.int .i64 0)).setCell ⟨t15, 2, none⟩ (.slice An 0 cn)).setCell ⟨t15, 3, none⟩ (.int .i64 0))) ?hgs15 ?hos15 ?hns15 ?hrs15 ?_; (case hos15 => rfl); (case hgs15 => rfl); (case hns15 => rfl); (case hrs15 => first | (go_simp; done) | (go_simp; rfl)); rintro W5 rfl; have hb := HX.out.2; have HQ := Aside0.mk (HK.out.on hb); clear HK; have HK := HQ; clear HQ; clear x0_ x1_ x2_ x3_ y0_ y1_ y2_ y3_; obtain ⟨x0_, _⟩ := zc HK.out.b3 0; obtain ⟨x1_, _⟩ := zc HK.out.b3 1; obtain ⟨x2_, _⟩ := zc HK.out.b3 2; obtain ⟨x3_, _⟩ := zc HK.out.b3 3; obtain ⟨y0_, _⟩ := zc HK.out.b4 0; obtain ⟨y1_, _⟩ := zc HK.out.b4 1; obtain ⟨y2_, _⟩ := zc HK.out.b4 2; obtain ⟨y3_, _⟩ := zc HK.out.b4 3; have HQ2 := Aside0.mk (ND.out.on hb); clear ND; have ND := HQ2; clear HQ2; have B10 := Aside0.mk HX.out.1; clear HX hb q0_ q1_ q2_ q3_ r0_ r1_ r2_ r3_; generalize ((((Wc.setCell ⟨t15, 0, none⟩ (.int .i64 0)).setCell ⟨t15, 1, none⟩ (.int .i64 0)).setCell ⟨t15, 2, none⟩ (.slice An 0 cn)).setCell ⟨t15, 3, none⟩ (.int .i64 0)) = Wd at *; obtain ⟨u0_, _⟩ := zc B10.out 0; obtain ⟨u1_, _⟩ := zc B10.out 1; obtain ⟨u2_, _⟩ := zc B10.out 2; obtain ⟨u3_, _⟩ := zc B10.out 3)
              | (go_at_call 19; (with_reducible refine (like_none _ _ _ ND.out.reads.2.1).mono ?_); rintro e_ w2 ⟨rfl, hb⟩; have HQ := Aside0.mk (HK.out.on hb); clear HK; have HK := HQ; clear HQ; clear x0_ x1_ x2_ x3_ y0_ y1_ y2_ y3_; obtain ⟨x0_, _⟩ := zc HK.out.b3 0; obtain ⟨x1_, _⟩ := zc HK.out.b3 1; obtain ⟨x2_, _⟩ := zc HK.out.b3 2; obtain ⟨x3_, _⟩ := zc HK.out.b3 3; obtain ⟨y0_, _⟩ := zc HK.out.b4 0; obtain ⟨y1_, _⟩ := zc HK.out.b4 1; obtain ⟨y2_, _⟩ := zc HK.out.b4 2; obtain ⟨y3_, _⟩ := zc HK.out.b4 3; clear hb))
        go_ret
        exact ⟨by first | rfl | simp, HK.out.be⟩
      · have q2' : (e2 == 0) = false := by simpa using q2
        go_enter Tryd.func3, Tryd.ntmps3
        go_wp2_with (first
              | ((with_reducible refine gate_dst (N := 3) rfl ?_); refine box_event ?hg3 (N := 3) ?hd3 (cs := #[.int .i64 st, .int .i64 n, .slice A l.length c, .int .i64 rt]) (t := 24) ?hr3 ?_; (case hd3 => rfl); (case hg3 => rfl); (case hr3 => first | (go_simp; done) | (go_simp; rfl)); intro t3 hg_ Wa hbox hb; have n_ := below_step HB.out hb; clear HB; have HB := Aside0.mk n_; have B3 := Aside0.mk hbox; clear n_ hbox hb hg_)
              | ((with_reducible refine gate_dst (N := 4) rfl ?_); refine box_event ?hg4 (N := 4) ?hd4 (cs := #[.int .i64 st', .int .i64 n', .slice A' l'.length c', .int .i64 rt']) (t := 24) ?hr4 ?_; (case hd4 => rfl); (case hg4 => rfl); (case hr4 => first | (go_simp; done) | (go_simp; rfl)); intro t4 hg_ Wb hbox hb; have HK := Aside0.mk (BK.mk (blk_below B3.out hb) hbox (below_step HB.out hb)); clear HB B3 hbox hb hg_; obtain ⟨x0_, _⟩ := zc HK.out.b3 0; obtain ⟨x1_, _⟩ := zc HK.out.b3 1; obtain ⟨x2_, _⟩ := zc HK.out.b3 2; obtain ⟨x3_, _⟩ := zc HK.out.b3 3; obtain ⟨y0_, _⟩ := zc HK.out.b4 0; obtain ⟨y1_, _⟩ := zc HK.out.b4 1; obtain ⟨y2_, _⟩ := zc HK.out.b4 2; obtain ⟨y3_, _⟩ := zc HK.out.b4 3)
              | (go_at_call 16; (with_reducible refine (AliveT.alive_calls _ (HP.out.on HK.out.be)).mono ?_); rintro e_ w2 ⟨rfl, hb⟩; have HQ := Aside0.mk (HK.out.on hb); clear HK; have HK := HQ; clear HQ; clear x0_ x1_ x2_ x3_ y0_ y1_ y2_ y3_; obtain ⟨x0_, _⟩ := zc HK.out.b3 0; obtain ⟨x1_, _⟩ := zc HK.out.b3 1; obtain ⟨x2_, _⟩ := zc HK.out.b3 2; obtain ⟨x3_, _⟩ := zc HK.out.b3 3; obtain ⟨y0_, _⟩ := zc HK.out.b4 0; obtain ⟨y1_, _⟩ := zc HK.out.b4 1; obtain ⟨y2_, _⟩ := zc HK.out.b4 2; obtain ⟨y3_, _⟩ := zc HK.out.b4 3; clear hb)
              | (go_at_call 17; (with_reducible refine (print_is _ _ _ _ _ _ _ _ _ _ hP1 hS1 (HP.out.on HK.out.be) (Kd.C_below HC1.out HK.out.be) HL1.out HY1.out).mono ?_); rintro e_ w2 ⟨rfl, hb⟩; have HQ := Aside0.mk (HK.out.on hb); clear HK; have HK := HQ; clear HQ; clear x0_ x1_ x2_ x3_ y0_ y1_ y2_ y3_; obtain ⟨x0_, _⟩ := zc HK.out.b3 0; obtain ⟨x1_, _⟩ := zc HK.out.b3 1; obtain ⟨x2_, _⟩ := zc HK.out.b3 2; obtain ⟨x3_, _⟩ := zc HK.out.b3 3; obtain ⟨y0_, _⟩ := zc HK.out.b4 0; obtain ⟨y1_, _⟩ := zc HK.out.b4 1; obtain ⟨y2_, _⟩ := zc HK.out.b4 2; obtain ⟨y3_, _⟩ := zc HK.out.b4 3; clear hb)
              | (go_at_call 18; (with_reducible refine (parse_is _ _ _ hpar1).mono ?_); rintro e_ w2 ⟨⟨nv_, K, rfl, hnd⟩, hb⟩; obtain ⟨An, cn, rfl⟩ := own_slice hnd.row; have ND := Aside0.mk hnd; have HQ := Aside0.mk (HK.out.on hb); clear HK; have HK := HQ; clear HQ; clear x0_ x1_ x2_ x3_ y0_ y1_ y2_ y3_; obtain ⟨x0_, _⟩ := zc HK.out.b3 0; obtain ⟨x1_, _⟩ := zc HK.out.b3 1; obtain ⟨x2_, _⟩ := zc HK.out.b3 2; obtain ⟨x3_, _⟩ := zc HK.out.b3 3; obtain ⟨y0_, _⟩ := zc HK.out.b4 0; obtain ⟨y1_, _⟩ := zc HK.out.b4 1; obtain ⟨y2_, _⟩ := zc HK.out.b4 2; obtain ⟨y3_, _⟩ := zc HK.out.b4 3; clear hb hnd)
              | ((with_reducible refine gate_dst (N := 10) rfl ?_); refine box_event ?hg10 (N := 10) ?hd10 (cs := #[.int .i64 0, .int .i64 0, .slice none 0 0, .int .i64 0]) (t := 24) ?hr10 ?_; (case hd10 => rfl); (case hg10 => rfl); (case hr10 => first | (go_simp; done) | (go_simp; rfl)); intro t10 hg_ Wc hbox hb; have HX := Aside0.mk (fill4 hb hg_ hbox (.int .i64 st) (.int .i64 n) (.slice An l.length cn) (.int .i64 rt)); obtain ⟨q0_, r0_⟩ := zc hbox 0; obtain ⟨q1_, r1_⟩ := zc hbox 1; obtain ⟨q2_, r2_⟩ := zc hbox 2; obtain ⟨q3_, r3_⟩ := zc hbox 3; clear hbox hb hg_)
              | ((with_reducible refine gate_store (t := 24) (p := 10) rfl ?_); refine store_event (t := 24) (p := 10) (v := ?vo10_) (w1 := ((((Wc.setCell ⟨t10, 0, none⟩ (.int .i64 st)).setCell ⟨t10, 1, none⟩ (.int .i64 n)).setCell ⟨t10, 2, none⟩ (.slice An l.length cn)).setCell ⟨t10, 3, none⟩ (.int .i64 rt))) ?hgs10 ?hos10 ?hns10 ?hrs10 ?_; (case hos10 => rfl); (case hgs10 => rfl); (case hns10 => rfl); (case hrs10 => first | (go_simp; done) | (go_simp; rfl)); rintro W5 rfl; have hb := HX.out.2; have HQ := Aside0.mk (HK.out.on hb); clear HK; have HK := HQ; clear HQ; clear x0_ x1_ x2_ x3_ y0_ y1_ y2_ y3_; obtain ⟨x0_, _⟩ := zc HK.out.b3 0; obtain ⟨x1_, _⟩ := zc HK.out.b3 1; obtain ⟨x2_, _⟩ := zc HK.out.b3 2; obtain ⟨x3_, _⟩ := zc HK.out.b3 3; obtain ⟨y0_, _⟩ := zc HK.out.b4 0; obtain ⟨y1_, _⟩ := zc HK.out.b4 1; obtain ⟨y2_, _⟩ := zc HK.out.b4 2; obtain ⟨y3_, _⟩ := zc HK.out.b4 3; have HQ2 := Aside0.mk (ND.out.on hb); clear ND; have ND := HQ2; clear HQ2; have B10 := Aside0.mk HX.out.1; clear HX hb q0_ q1_ q2_ q3_ r0_ r1_ r2_ r3_; generalize ((((Wc.setCell ⟨t10, 0, none⟩ (.int .i64 st)).setCell ⟨t10, 1, none⟩ (.int .i64 n)).setCell ⟨t10, 2, none⟩ (.slice An l.length cn)).setCell ⟨t10, 3, none⟩ (.int .i64 rt)) = Wd at *; obtain ⟨u0_, _⟩ := zc B10.out 0; obtain ⟨u1_, _⟩ := zc B10.out 1; obtain ⟨u2_, _⟩ := zc B10.out 2; obtain ⟨u3_, _⟩ := zc B10.out 3)
              | (go_at_call 17; (with_reducible refine (print_is _ _ _ _ _ _ _ _ _ _ hP2 hS2 (HP.out.on HK.out.be) (Kd.C_below HC2.out HK.out.be) HL2.out HY2.out).mono ?_); rintro e_ w2 ⟨rfl, hb⟩; have HQ := Aside0.mk (HK.out.on hb); clear HK; have HK := HQ; clear HQ; clear x0_ x1_ x2_ x3_ y0_ y1_ y2_ y3_; obtain ⟨x0_, _⟩ := zc HK.out.b3 0; obtain ⟨x1_, _⟩ := zc HK.out.b3 1; obtain ⟨x2_, _⟩ := zc HK.out.b3 2; obtain ⟨x3_, _⟩ := zc HK.out.b3 3; obtain ⟨y0_, _⟩ := zc HK.out.b4 0; obtain ⟨y1_, _⟩ := zc HK.out.b4 1; obtain ⟨y2_, _⟩ := zc HK.out.b4 2; obtain ⟨y3_, _⟩ := zc HK.out.b4 3; have HQ := Aside0.mk (blk_below B10.out hb); have HQ2 := Aside0.mk (ND.out.on hb); clear B10 ND hb u0_ u1_ u2_ u3_; have B10 := HQ; have ND := HQ2; clear HQ HQ2; obtain ⟨u0_, _⟩ := zc B10.out 0; obtain ⟨u1_, _⟩ := zc B10.out 1; obtain ⟨u2_, _⟩ := zc B10.out 2; obtain ⟨u3_, _⟩ := zc B10.out 3)
              | (go_at_call 19; (with_reducible refine (like_as _ _ _ _ _ _ _ _ _ _ _ _ _ _ hSelf ND.out.reads.2.1 ND.out.reads.2.2 (Kd.C_below HC1.out HK.out.be) HL1.out HM1.out.1 HM1.out.2).mono ?_); rintro e_ w2 ⟨rfl, hb⟩; have HQ := Aside0.mk (HK.out.on hb); clear HK; have HK := HQ; clear HQ; clear x0_ x1_ x2_ x3_ y0_ y1_ y2_ y3_; obtain ⟨x0_, _⟩ := zc HK.out.b3 0; obtain ⟨x1_, _⟩ := zc HK.out.b3 1; obtain ⟨x2_, _⟩ := zc HK.out.b3 2; obtain ⟨x3_, _⟩ := zc HK.out.b3 3; obtain ⟨y0_, _⟩ := zc HK.out.b4 0; obtain ⟨y1_, _⟩ := zc HK.out.b4 1; obtain ⟨y2_, _⟩ := zc HK.out.b4 2; obtain ⟨y3_, _⟩ := zc HK.out.b4 3; have HQ := Aside0.mk (blk_below B10.out hb); have HQ2 := Aside0.mk (ND.out.on hb); clear B10 ND u0_ u1_ u2_ u3_; have B10 := HQ; have ND := HQ2; clear HQ HQ2; obtain ⟨u0_, _⟩ := zc B10.out 0; obtain ⟨u1_, _⟩ := zc B10.out 1; obtain ⟨u2_, _⟩ := zc B10.out 2; obtain ⟨u3_, _⟩ := zc B10.out 3; clear hb)
              | (go_at_call 18; (with_reducible refine (parse_is _ _ _ hpar2).mono ?_); rintro e_ w2 ⟨⟨nv_, K, rfl, hnd⟩, hb⟩; obtain ⟨An, cn, rfl⟩ := own_slice hnd.row; have ND := Aside0.mk hnd; have HQ := Aside0.mk (HK.out.on hb); clear HK; have HK := HQ; clear HQ; clear x0_ x1_ x2_ x3_ y0_ y1_ y2_ y3_; obtain ⟨x0_, _⟩ := zc HK.out.b3 0; obtain ⟨x1_, _⟩ := zc HK.out.b3 1; obtain ⟨x2_, _⟩ := zc HK.out.b3 2; obtain ⟨x3_, _⟩ := zc HK.out.b3 3; obtain ⟨y0_, _⟩ := zc HK.out.b4 0; obtain ⟨y1_, _⟩ := zc HK.out.b4 1; obtain ⟨y2_, _⟩ := zc HK.out.b4 2; obtain ⟨y3_, _⟩ := zc HK.out.b4 3; clear hb hnd)
              | ((with_reducible refine gate_dst (N := 15) rfl ?_); refine box_event ?hg15 (N := 15) ?hd15 (cs := #[.int .i64 0, .int .i64 0, .slice none 0 0, .int .i64 0]) (t := 24) ?hr15 ?_; (case hd15 => rfl); (case hg15 => rfl); (case hr15 => first | (go_simp; done) | (go_simp; rfl)); intro t15 hg_ Wc hbox hb; have HX := Aside0.mk (fill4 hb hg_ hbox (.int .i64 0) (.int .i64 0) (.slice An 0 cn) (.int .i64 0)); obtain ⟨q0_, r0_⟩ := zc hbox 0; obtain ⟨q1_, r1_⟩ := zc hbox 1; obtain ⟨q2_, r2_⟩ := zc hbox 2; obtain ⟨q3_, r3_⟩ := zc hbox 3; clear hbox hb hg_)
              | ((with_reducible refine gate_store (t := 24) (p := 15) rfl ?_); refine store_event (t := 24) (p := 15) (v := ?vo15_) (w1 := ((((Wc.setCell ⟨t15, 0, none⟩ (.int .i64 0)).setCell ⟨t15, 1, none⟩ (.int .i64 0)).setCell ⟨t15, 2, none⟩ (.slice An 0 cn)).setCell ⟨t15, 3, none⟩ (.int .i64 0))) ?hgs15 ?hos15 ?hns15 ?hrs15 ?_; (case hos15 => rfl); (case hgs15 => rfl); (case hns15 => rfl); (case hrs15 => first | (go_simp; done) | (go_simp; rfl)); rintro W5 rfl; have hb := HX.out.2; have HQ := Aside0.mk (HK.out.on hb); clear HK; have HK := HQ; clear HQ; clear x0_ x1_ x2_ x3_ y0_ y1_ y2_ y3_; obtain ⟨x0_, _⟩ := zc HK.out.b3 0; obtain ⟨x1_, _⟩ := zc HK.out.b3 1; obtain ⟨x2_, _⟩ := zc HK.out.b3 2; obtain ⟨x3_, _⟩ := zc HK.out.b3 3; obtain ⟨y0_, _⟩ := zc HK.out.b4 0; obtain ⟨y1_, _⟩ := zc HK.out.b4 1; obtain ⟨y2_, _⟩ := zc HK.out.b4 2; obtain ⟨y3_, _⟩ := zc HK.out.b4 3; have HQ2 := Aside0.mk (ND.out.on hb); clear ND; have ND := HQ2; clear HQ2; have B10 := Aside0.mk HX.out.1; clear HX hb q0_ q1_ q2_ q3_ r0_ r1_ r2_ r3_; generalize ((((Wc.setCell ⟨t15, 0, none⟩ (.int .i64 0)).setCell ⟨t15, 1, none⟩ (.int .i64 0)).setCell ⟨t15, 2, none⟩ (.slice An 0 cn)).setCell ⟨t15, 3, none⟩ (.int .i64 0)) = Wd at *; obtain ⟨u0_, _⟩ := zc B10.out 0; obtain ⟨u1_, _⟩ := zc B10.out 1; obtain ⟨u2_, _⟩ := zc B10.out 2; obtain ⟨u3_, _⟩ := zc B10.out 3)
              | (go_at_call 19; (with_reducible refine (like_none _ _ _ ND.out.reads.2.1).mono ?_); rintro e_ w2 ⟨rfl, hb⟩; have HQ := Aside0.mk (HK.out.on hb); clear HK; have HK := HQ; clear HQ; clear x0_ x1_ x2_ x3_ y0_ y1_ y2_ y3_; obtain ⟨x0_, _⟩ := zc HK.out.b3 0; obtain ⟨x1_, _⟩ := zc HK.out.b3 1; obtain ⟨x2_, _⟩ := zc HK.out.b3 2; obtain ⟨x3_, _⟩ := zc HK.out.b3 3; obtain ⟨y0_, _⟩ := zc HK.out.b4 0; obtain ⟨y1_, _⟩ := zc HK.out.b4 1; obtain ⟨y2_, _⟩ := zc HK.out.b4 2; obtain ⟨y3_, _⟩ := zc HK.out.b4 3; clear hb))
        go_ret
        exact ⟨by first | rfl | simp, HK.out.be⟩
    · have hp1 := printR_bad st n l rt p1 e1 hP1 q1
      subst hp1
      subst hS1
      have q1' : (e1 == 0) = false := by simpa using q1
      go_enter Tryd.func3, Tryd.ntmps3
      go_wp2_with (first
            | ((with_reducible refine gate_dst (N := 3) rfl ?_); refine box_event ?hg3 (N := 3) ?hd3 (cs := #[.int .i64 st, .int .i64 n, .slice A l.length c, .int .i64 rt]) (t := 24) ?hr3 ?_; (case hd3 => rfl); (case hg3 => rfl); (case hr3 => first | (go_simp; done) | (go_simp; rfl)); intro t3 hg_ Wa hbox hb; have n_ := below_step HB.out hb; clear HB; have HB := Aside0.mk n_; have B3 := Aside0.mk hbox; clear n_ hbox hb hg_)
            | ((with_reducible refine gate_dst (N := 4) rfl ?_); refine box_event ?hg4 (N := 4) ?hd4 (cs := #[.int .i64 st', .int .i64 n', .slice A' l'.length c', .int .i64 rt']) (t := 24) ?hr4 ?_; (case hd4 => rfl); (case hg4 => rfl); (case hr4 => first | (go_simp; done) | (go_simp; rfl)); intro t4 hg_ Wb hbox hb; have HK := Aside0.mk (BK.mk (blk_below B3.out hb) hbox (below_step HB.out hb)); clear HB B3 hbox hb hg_; obtain ⟨x0_, _⟩ := zc HK.out.b3 0; obtain ⟨x1_, _⟩ := zc HK.out.b3 1; obtain ⟨x2_, _⟩ := zc HK.out.b3 2; obtain ⟨x3_, _⟩ := zc HK.out.b3 3; obtain ⟨y0_, _⟩ := zc HK.out.b4 0; obtain ⟨y1_, _⟩ := zc HK.out.b4 1; obtain ⟨y2_, _⟩ := zc HK.out.b4 2; obtain ⟨y3_, _⟩ := zc HK.out.b4 3)
            | (go_at_call 16; (with_reducible refine (AliveT.alive_calls _ (HP.out.on HK.out.be)).mono ?_); rintro e_ w2 ⟨rfl, hb⟩; have HQ := Aside0.mk (HK.out.on hb); clear HK; have HK := HQ; clear HQ; clear x0_ x1_ x2_ x3_ y0_ y1_ y2_ y3_; obtain ⟨x0_, _⟩ := zc HK.out.b3 0; obtain ⟨x1_, _⟩ := zc HK.out.b3 1; obtain ⟨x2_, _⟩ := zc HK.out.b3 2; obtain ⟨x3_, _⟩ := zc HK.out.b3 3; obtain ⟨y0_, _⟩ := zc HK.out.b4 0; obtain ⟨y1_, _⟩ := zc HK.out.b4 1; obtain ⟨y2_, _⟩ := zc HK.out.b4 2; obtain ⟨y3_, _⟩ := zc HK.out.b4 3; clear hb)
            | (go_at_call 17; (with_reducible refine (print_is _ _ _ _ _ _ _ _ _ _ hP1 rfl (HP.out.on HK.out.be) (Kd.C_below HC1.out HK.out.be) HL1.out HY1.out).mono ?_); rintro e_ w2 ⟨rfl, hb⟩; have HQ := Aside0.mk (HK.out.on hb); clear HK; have HK := HQ; clear HQ; clear x0_ x1_ x2_ x3_ y0_ y1_ y2_ y3_; obtain ⟨x0_, _⟩ := zc HK.out.b3 0; obtain ⟨x1_, _⟩ := zc HK.out.b3 1; obtain ⟨x2_, _⟩ := zc HK.out.b3 2; obtain ⟨x3_, _⟩ := zc HK.out.b3 3; obtain ⟨y0_, _⟩ := zc HK.out.b4 0; obtain ⟨y1_, _⟩ := zc HK.out.b4 1; obtain ⟨y2_, _⟩ := zc HK.out.b4 2; obtain ⟨y3_, _⟩ := zc HK.out.b4 3; clear hb)
            | (go_at_call 18; (with_reducible refine (parse_is _ _ _ hpar2).mono ?_); rintro e_ w2 ⟨⟨nv_, K, rfl, hnd⟩, hb⟩; obtain ⟨An, cn, rfl⟩ := own_slice hnd.row; have ND := Aside0.mk hnd; have HQ := Aside0.mk (HK.out.on hb); clear HK; have HK := HQ; clear HQ; clear x0_ x1_ x2_ x3_ y0_ y1_ y2_ y3_; obtain ⟨x0_, _⟩ := zc HK.out.b3 0; obtain ⟨x1_, _⟩ := zc HK.out.b3 1; obtain ⟨x2_, _⟩ := zc HK.out.b3 2; obtain ⟨x3_, _⟩ := zc HK.out.b3 3; obtain ⟨y0_, _⟩ := zc HK.out.b4 0; obtain ⟨y1_, _⟩ := zc HK.out.b4 1; obtain ⟨y2_, _⟩ := zc HK.out.b4 2; obtain ⟨y3_, _⟩ := zc HK.out.b4 3; clear hb hnd)
            | ((with_reducible refine gate_dst (N := 15) rfl ?_); refine box_event ?hg15 (N := 15) ?hd15 (cs := #[.int .i64 0, .int .i64 0, .slice none 0 0, .int .i64 0]) (t := 24) ?hr15 ?_; (case hd15 => rfl); (case hg15 => rfl); (case hr15 => first | (go_simp; done) | (go_simp; rfl)); intro t15 hg_ Wc hbox hb; have HX := Aside0.mk (fill4 hb hg_ hbox (.int .i64 0) (.int .i64 0) (.slice An 0 cn) (.int .i64 0)); obtain ⟨q0_, r0_⟩ := zc hbox 0; obtain ⟨q1_, r1_⟩ := zc hbox 1; obtain ⟨q2_, r2_⟩ := zc hbox 2; obtain ⟨q3_, r3_⟩ := zc hbox 3; clear hbox hb hg_)
            | ((with_reducible refine gate_store (t := 24) (p := 15) rfl ?_); refine store_event (t := 24) (p := 15) (v := ?vo15_) (w1 := ((((Wc.setCell ⟨t15, 0, none⟩ (.int .i64 0)).setCell ⟨t15, 1, none⟩ (.int .i64 0)).setCell ⟨t15, 2, none⟩ (.slice An 0 cn)).setCell ⟨t15, 3, none⟩ (.int .i64 0))) ?hgs15 ?hos15 ?hns15 ?hrs15 ?_; (case hos15 => rfl); (case hgs15 => rfl); (case hns15 => rfl); (case hrs15 => first | (go_simp; done) | (go_simp; rfl)); rintro W5 rfl; have hb := HX.out.2; have HQ := Aside0.mk (HK.out.on hb); clear HK; have HK := HQ; clear HQ; clear x0_ x1_ x2_ x3_ y0_ y1_ y2_ y3_; obtain ⟨x0_, _⟩ := zc HK.out.b3 0; obtain ⟨x1_, _⟩ := zc HK.out.b3 1; obtain ⟨x2_, _⟩ := zc HK.out.b3 2; obtain ⟨x3_, _⟩ := zc HK.out.b3 3; obtain ⟨y0_, _⟩ := zc HK.out.b4 0; obtain ⟨y1_, _⟩ := zc HK.out.b4 1; obtain ⟨y2_, _⟩ := zc HK.out.b4 2; obtain ⟨y3_, _⟩ := zc HK.out.b4 3; have HQ2 := Aside0.mk (ND.out.on hb); clear ND; have ND := HQ2; clear HQ2; have B10 := Aside0.mk HX.out.1; clear HX hb q0_ q1_ q2_ q3_ r0_ r1_ r2_ r3_; generalize ((((Wc.setCell ⟨t15, 0, none⟩ (.int .i64 0)).setCell ⟨t15, 1, none⟩ (.int .i64 0)).setCell ⟨t15, 2, none⟩ (.slice An 0 cn)).setCell ⟨t15, 3, none⟩ (.int .i64 0)) = Wd at *; obtain ⟨u0_, _⟩ := zc B10.out 0; obtain ⟨u1_, _⟩ := zc B10.out 1; obtain ⟨u2_, _⟩ := zc B10.out 2; obtain ⟨u3_, _⟩ := zc B10.out 3)
            | (go_at_call 19; (with_reducible refine (like_none _ _ _ ND.out.reads.2.1).mono ?_); rintro e_ w2 ⟨rfl, hb⟩; have HQ := Aside0.mk (HK.out.on hb); clear HK; have HK := HQ; clear HQ; clear x0_ x1_ x2_ x3_ y0_ y1_ y2_ y3_; obtain ⟨x0_, _⟩ := zc HK.out.b3 0; obtain ⟨x1_, _⟩ := zc HK.out.b3 1; obtain ⟨x2_, _⟩ := zc HK.out.b3 2; obtain ⟨x3_, _⟩ := zc HK.out.b3 3; obtain ⟨y0_, _⟩ := zc HK.out.b4 0; obtain ⟨y1_, _⟩ := zc HK.out.b4 1; obtain ⟨y2_, _⟩ := zc HK.out.b4 2; obtain ⟨y3_, _⟩ := zc HK.out.b4 3; clear hb))
      go_ret
      exact ⟨by first | rfl | simp, HK.out.be⟩
end Go.Proofs.YtbnonnogkgbpiaaDoor.ParseT
end
section
namespace Go.Proofs.YtbnonnogkgbpiaaDoor.OpenTree
open Go Go.RowKit Go.ChangeShapes Go.WideShapes Go.Deep Go.Proofs.YtbnonnogkgbpiaaDoorW.PrintWords Go.Proofs.YtbnonnogkgbpiaaDoor.PT Go.Proofs.YtbnonnogkgbpiaaDoor.TreePlain
set_option linter.unusedVariables false
set_option linter.unusedSimpArgs false
set_option maxRecDepth 100000
theorem cells5 : Tryd.prog.cellsOf 5 = 1 := by kernel_rfl
theorem cells47 : Tryd.prog.cellsOf 47 = 1 := by kernel_rfl
theorem cells49 : Tryd.prog.cellsOf 49 = 2 := by kernel_rfl
theorem bulk_pos {H : Type} (d : DataW H) : 1 ≤ Rows.uptoBulk d := by
  cases d with
  | lit l => cases l <;> simp [Rows.uptoBulk]
  | _ => simp [Rows.uptoBulk]
theorem bulk_mem {H : Type} : ∀ (l : List (DataW H)) (d : DataW H), d ∈ l → Rows.uptoBulk d ≤ Rows.uptoBulkAll l
  | x :: l, d, h => by
    simp only [Rows.uptoBulkAll]
    rcases List.mem_cons.1 h with rfl | h
    · omega
    · have := bulk_mem l d h
      omega
theorem bulk_len {H : Type} : ∀ (l : List (DataW H)), l.length ≤ Rows.uptoBulkAll l
  | [] => Nat.zero_le _
  | x :: l => by
    simp only [Rows.uptoBulkAll, List.length_cons]
    have := bulk_len l
    have := bulk_pos x
    omega
theorem bulk_slice {H : Type} (e s : List (DataW H)) : e.length ≤ Rows.uptoBulk (.slice e s) := by
  simp only [Rows.uptoBulk]
  have := bulk_len e
  omega
def wfs (l : List Int) : Prop := ∀ v ∈ l, (Lit.int .i64 v).wf = true
section
variable {H : Type} {enc : TypeId × Value → H} {w : World} {base n : Nat} {held : Bool}
theorem open_ints' {k : IntKind} {t e : TypeId} {v : Value} {x : DataW H × List MemPlace} {spare : Nat → Bool} (ht : Tryd.prog.underlying t = some (.slice e)) (he : Tryd.prog.underlying e = some (.int k)) (hc : Tryd.prog.cellsOf e = 1)
    (h : DataW.trod enc Tryd.prog w base spare held n t [v] = some x) : ∃ (A : Option Addr) (c : Nat) (zs : List Int), v = .slice A zs.length c ∧ zs.length ≤ c ∧ Kd.C (Kd.int k) w A zs.length zs ∧ (∀ v ∈ zs, (Lit.int k v).wf = true) ∧ (zs.length = 0 ∨ ∃ elems rest, elems.length = zs.length ∧ x.1 = .slice elems rest) := by
  rcases Go.ChangeShapes.open_ints ht he hc h with ⟨h1, _⟩ | ⟨a, len, cap, zs, h1, _, hl, hm, hz, hx, hcell, hwf⟩
  · obtain rfl : v = .slice none 0 0 := by simpa using h1
    exact ⟨none, 0, [], rfl, Nat.le_refl _, Kd.C_nil _ _, fun v hv => by simp at hv, .inl rfl⟩
  · obtain rfl : v = .slice (some a) len cap := by simpa using h1
    have hzl : len ≤ zs.length := by rw [hz]; split <;> omega
    have hlen : (zs.take len).length = len := by simp; omega
    refine ⟨some a, cap, zs.take len, by rw [hlen], by rw [hlen]; exact hl, ⟨rfl, by rw [hlen]; simp [maxLen] at hm; omega, fun _ => ⟨a, rfl, fun j p hj => ⟨[.int k p], rfl, rfl, fun i u hu => ?_⟩⟩⟩, fun q hq => hwf q (List.mem_of_mem_take hq), .inr ⟨_, _, ?_, by rw [hx]⟩⟩
    · have hj' : j < len := by
        have := (List.getElem?_eq_some_iff.1 hj).1
        omega
      have hp : zs[j]? = some p := by rwa [List.getElem?_take_of_lt hj'] at hj
      match i, hu with
      | 0, hu =>
        obtain rfl : Value.int k p = u := by simpa using hu
        have := hcell j (by omega)
        rw [List.getD_eq_getElem?_getD, hp] at this
        simpa [Kd.int, Kd.scalar] using this
      | i + 1, hu => simp at hu
    · simp [Go.ChangeShapes.lits]
theorem choose_lt {α : Type} [Inhabited α] {P : Nat → α → Prop} : ∀ {m : Nat}, (∀ i, i < m → ∃ q, P i q) → ∃ f : Nat → α, ∀ i, i < m → P i (f i)
  | 0, _ => ⟨fun _ => default, fun i hi => absurd hi (Nat.not_lt_zero i)⟩
  | m + 1, h => by
    obtain ⟨f, hf⟩ := choose_lt (m := m) (fun i hi => h i (by omega))
    obtain ⟨q, hq⟩ := h m (Nat.lt_succ_self m)
    refine ⟨fun i => if i = m then q else f i, fun i hi => ?_⟩
    by_cases e : i = m
    · subst e
      simpa using hq
    · simp only [if_neg e]
      exact hf i (by omega)
theorem open_nodes {v : Value} {x : DataW H × List MemPlace} (hbk : Rows.uptoBulk x.1 ≤ 1048576) (h : DataW.trod enc Tryd.prog w base (fun _ => true) held n 22 [v] = some x) :
    ∃ (A : Option Addr) (c : Nat) (l : List S49), v = .slice A l.length c ∧ l.length ≤ c ∧ Kd.C k49 w A l.length l ∧ Bytes l ∧ l.length ≤ 1048576 ∧ (∀ j, (nd l j).f1.length ≤ 1048576) ∧ ∀ y ∈ l, wfs y.f1 := by
  rcases open_slice_pairs Tryd.underlying22 Tryd.underlying49 cells49 rfl rfl cells5 cells47 h with ⟨h1, _⟩ | ⟨ad, len, cap, m, n', V0, V1, D0, D1, P0, P1, h1, _, hl, hm, hmm, hx, hall⟩
  · obtain rfl : v = .slice none 0 0 := by simpa using h1
    exact ⟨none, 0, [], rfl, Nat.le_refl _, Kd.C_nil _ _, fun y hy => by simp at hy, Nat.zero_le _, fun j => by simp [nd, z49], fun y hy => by simp at hy⟩
  · obtain rfl : v = .slice (some ad) len cap := by simpa using h1
    have hlm : len ≤ m := by rw [hmm]; split <;> omega
    have hd2 : x.1 = .slice ((List.range len).map fun i => .agg [D0 i, D1 i]) ((List.range (m - len)).map fun j => .agg [D0 (len + j), D1 (len + j)]) := congrArg Prod.fst hx
    have each : ∀ i, i < len → ∃ q : Int × Option Addr × Nat × List Int, V0 i = .int .u8 q.1 ∧ V1 i = .slice q.2.1 q.2.2.2.length q.2.2.1 ∧ q.2.2.2.length ≤ q.2.2.1 ∧ Kd.C (Kd.int .i64) w q.2.1 q.2.2.2.length q.2.2.2 ∧ wfs q.2.2.2 ∧ q.2.2.2.length ≤ 1048576 ∧ (0 ≤ q.1 ∧ q.1 ≤ 255) := by
      intro i hi
      obtain ⟨_, _, g0, g1⟩ := hall i (by omega)
      have g0' : DataW.trod enc Tryd.prog w base (fun _ => true) held n' 5 [V0 i] = some (D0 i, P0 i) := g0
      have g1' : DataW.trod enc Tryd.prog w base (fun _ => true) held n' 47 [V1 i] = some (D1 i, P1 i) := g1
      obtain ⟨z, e0, _, wz⟩ := DataW.trod_int Tryd.underlying5 g0'
      obtain ⟨A, c, zs, eb, hl2, hC, hu, hdz⟩ := open_ints' Tryd.underlying47 Tryd.underlying3 (by kernel_rfl) g1'
      refine ⟨(z, A, c, zs), by simpa using e0, eb, hl2, hC, hu, ?_, ?_⟩
      · rcases hdz with h0 | ⟨el, sp, hel, hdz⟩
        · show zs.length ≤ _
          omega
        · have hdz : D1 i = .slice el sp := hdz
          have h1 := bulk_slice el sp
          have h2 : Rows.uptoBulk (D1 i) ≤ Rows.uptoBulk (DataW.agg [D0 i, D1 i]) := by
            simp only [Rows.uptoBulk, Rows.uptoBulkAll]
            omega
          have h3 := bulk_mem ((List.range len).map fun i => DataW.agg [D0 i, D1 i]) _ (List.mem_map.2 ⟨i, List.mem_range.2 hi, rfl⟩)
          have h4 : Rows.uptoBulkAll ((List.range len).map fun i => DataW.agg [D0 i, D1 i]) ≤ Rows.uptoBulk x.1 := by
            rw [hd2]
            simp only [Rows.uptoBulk]
            omega
          rw [hdz] at h2 h3
          show zs.length ≤ _
          simp only [hdz] at *
          omega
      · show 0 ≤ z ∧ z ≤ 255
        simp [Lit.wf, IntKind.min, IntKind.max, IntKind.bits, IntKind.signed] at wz
        omega
    obtain ⟨q, hq⟩ := choose_lt each
    have hll : ((List.range len).map fun i => (⟨(q i).1, (q i).2.2.2⟩ : S49)).length = len := by simp
    have hget : ∀ i, i < len → ((List.range len).map fun i => (⟨(q i).1, (q i).2.2.2⟩ : S49))[i]? = some ⟨(q i).1, (q i).2.2.2⟩ := fun i hi => by
      rw [List.getElem?_map, List.getElem?_range hi]
      rfl
    have hin : ∀ y ∈ ((List.range len).map fun i => (⟨(q i).1, (q i).2.2.2⟩ : S49)), ∃ i, i < len ∧ y = ⟨(q i).1, (q i).2.2.2⟩ := fun y hy => by
      obtain ⟨i, hi, rfl⟩ := List.mem_map.1 hy
      exact ⟨i, List.mem_range.1 hi, rfl⟩
    have hlen : len ≤ 1048576 := by
      have h1 := bulk_slice ((List.range len).map fun i => DataW.agg [D0 i, D1 i]) ((List.range (m - len)).map fun j => .agg [D0 (len + j), D1 (len + j)])
      rw [← hd2] at h1
      simp at h1
      omega
    refine ⟨some ad, cap, (List.range len).map fun i => ⟨(q i).1, (q i).2.2.2⟩, by rw [hll], by rw [hll]; exact hl, ⟨rfl, by rw [hll]; simp [maxLen] at hm; omega, fun _ => ⟨ad, rfl, fun j p hj => ?_⟩⟩, fun y hy => ?_, by rw [hll]; exact hlen, fun j => ?_, fun y hy => ?_⟩
    · have hj' : j < len := by
        have := (List.getElem?_eq_some_iff.1 hj).1
        omega
      rw [hget j hj'] at hj
      obtain rfl := Option.some.inj hj
      obtain ⟨q1, q2, q3, q4, q5, q6, q7⟩ := hq j hj'
      obtain ⟨k0, k1, _, _⟩ := hall j (by omega)
      rw [q1] at k0
      rw [q2] at k1
      exact ⟨_, rfl, k49_mk w ⟨(q j).1, (q j).2.2.2⟩ q3 q4, fun i u hu => by
        match i, hu with
        | 0, hu => obtain rfl := Option.some.inj hu; exact k0
        | 1, hu => obtain rfl := Option.some.inj hu; exact k1⟩
    · obtain ⟨i, hi, rfl⟩ := hin y hy
      exact (hq i hi).2.2.2.2.2.2
    · unfold nd
      rw [List.getD_eq_getElem?_getD]
      by_cases e : j < len
      · rw [hget j e]
        exact (hq j e).2.2.2.2.2.1
      · rw [List.getElem?_eq_none (by rw [hll]; omega)]
        simp [z49]
    · obtain ⟨i, hi, rfl⟩ := hin y hy
      exact (hq i hi).2.2.2.2.1
end
end Go.Proofs.YtbnonnogkgbpiaaDoor.OpenTree
end
section
namespace Go.Proofs.YtbnonnogkgbpiaaDoor.treeBack
open Go.ChangeShapes Go.WideShapes Go.ChangeAt Go.RowKit Go.Joins Go.Deep
open Go.ChangeMaps (open_string shut_string)
set_option linter.unusedVariables false
theorem own : ownKnob Tryd.prog.godebug = none := by kernel_rfl
theorem laidOut : laidOutB Tryd.prog = true := by kernel_rfl
theorem open_agg_4 {H : Type} {enc : TypeId × Value → H} {P : Program} {w : World} {base : Nat} {spare : Nat → Bool} {held : Bool} {r : Reach} {b0 : Nat} {t : TypeId} {f0 f1 f2 f3 : Field} {v : Value} {d : DataW H} {p : List MemPlace} (hs : P.underlying t = some (.struct #[f0, f1, f2, f3])) (hone : oneCellFields P #[f0, f1, f2, f3] = true) (hC : P.cellsOf t = 4)
    (hv : Value.okWide P w r b0 t v) (h : DataW.Trod enc P w base spare held t v d p) :
    ∃ (v0 v1 v2 v3 : Value) (y0 y1 y2 y3 : DataW H × List MemPlace) (n : Nat), v = .agg #[v0, v1, v2, v3] ∧ d = .agg [y0.1, y1.1, y2.1, y3.1] ∧ DataW.trod enc P w base spare held n f0.type [v0] = some y0 ∧ DataW.trod enc P w base spare held n f1.type [v1] = some y1 ∧ DataW.trod enc P w base spare held n f2.type [v2] = some y2 ∧ DataW.trod enc P w base spare held n f3.type [v3] = some y3 := by
  obtain ⟨cs, rfl, hsz⟩ := okWide_struct hs hv
  obtain ⟨l⟩ := cs
  match l, hsz.trans hC with
  | [c0, c1, c2, c3], _ =>
    obtain ⟨fuel, hf⟩ := h
    obtain ⟨xs, n, _, hx, _, hlen, hg⟩ := DataW.trod_struct hs hf
    obtain ⟨o0, k0⟩ := hone_of hone 0 f0 rfl
    obtain ⟨o1, k1⟩ := hone_of hone 1 f1 rfl
    obtain ⟨o2, k2⟩ := hone_of hone 2 f2 rfl
    obtain ⟨o3, k3⟩ := hone_of hone 3 f3 rfl
    match xs, hlen with
    | [y0, y1, y2, y3], _ =>
      simp only [Prod.mk.injEq] at hx
      exact ⟨c0, c1, c2, c3, y0, y1, y2, y3, n, rfl, by simpa using hx.1, by simpa [Value.cells, o0, k0] using hg 0 f0 rfl, by simpa [Value.cells, o1, k1] using hg 1 f1 rfl, by simpa [Value.cells, o2, k2] using hg 2 f2 rfl, by simpa [Value.cells, o3, k3] using hg 3 f3 rfl⟩
theorem laidPlain {W : World} (h : laidMetH Tryd.prog Rows.treeBackUptoRow.laid W) : laidMet Tryd.prog Rows.treeBackUptoRow.laid W := by
  rw [MakeChecks.laidMetH_plain _ _ _ (by kernel_rfl)] at h; exact h
theorem pow10 {W : World} (h : laidMetH Tryd.prog Rows.treeBackUptoRow.laid W) : Lib.TabIs Tryd.prog W "internal/strconv.uint64pow10" .u64 Lib.pow10Tab :=
  Lib.tabIs_of_head (g := 0) (t := 153) (e := 147) (n := 20) (by kernel_rfl) (by kernel_rfl) Tryd.underlying153 Tryd.underlying147 (by kernel_rfl) (by kernel_rfl) (laidMet.tail (laidMet.tail (laidPlain h)))
theorem door_met (os : Os) (args : Array Value) : laidMetH Tryd.prog Rows.treeBackUptoRow.laid ((World.doorLaid Tryd.prog 24 os).forCall (fun _ _ => 0) ⟨#[], args, []⟩).memory :=
  laidMetH_of_parts3 (fuel := 8) (laidMet_of_run' 8 (by kernel_rfl) (by kernel_rfl)) (by kernel_rfl) (by kernel_rfl)
set_option maxRecDepth 100000 in
theorem reads (os : Os) {H : Type} (enc : TypeId × Value → H) : ∃ places, DataW.whole enc Tryd.prog ((World.doorLaid Tryd.prog 24 os).forCall (fun _ _ => 0) ⟨#[], #[.agg #[.int .i64 0, .int .i64 0, .slice none 0 0, .int .i64 0], .agg #[.int .i64 0, .int .i64 0, .slice none 0 0, .int .i64 0], .string ByteArray.empty], []⟩).memory Tryd.f3.params.toList Rows.treeBackSpec.vars false (#[.agg #[.int .i64 0, .int .i64 0, .slice none 0 0, .int .i64 0], .agg #[.int .i64 0, .int .i64 0, .slice none 0 0, .int .i64 0], .string ByteArray.empty] : Array Value).toList 8 = some ([.agg [.lit (.int .i64 0), .lit (.int .i64 0), .nil, .lit (.int .i64 0)], .agg [.lit (.int .i64 0), .lit (.int .i64 0), .nil, .lit (.int .i64 0)], .lit (.string [])], [], places) := ⟨[], by kernel_rfl⟩
set_option maxRecDepth 100000 in
theorem lifted (os : Os) (started : os.Started) (H : Type) (enc : TypeId × Value → H) (F : Stop.Interp) :
    ReturnsInHanded {} Tryd.checked os 3 .any ((Rows.OpenSpec.upto Rows.treeBackSpec).preRow enc Tryd.prog Tryd.f3 Rows.treeBackUptoRow.domain false Rows.treeBackUptoRow.laid) (((Rows.OpenSpec.upto Rows.treeBackSpec).at F).post enc Tryd.prog Tryd.f3 false true false false) := by
  obtain ⟨places, hx⟩ := reads os enc
  refine returnsInHanded_of_row (C := Tryd.checked) (s := Rows.OpenSpec.upto Rows.treeBackSpec) own started (by kernel_rfl) Tryd.func3
    (witness_row_atRef (enc := enc) (C := Tryd.checked) false (World.doorLaid Tryd.prog 24 os) #[.agg #[.int .i64 0, .int .i64 0, .slice none 0 0, .int .i64 0], .agg #[.int .i64 0, .int .i64 0, .slice none 0 0, .int .i64 0], .string ByteArray.empty] rfl (by kernel_rfl) (by kernel_rfl) (by kernel_rfl)
      (OpenSpec.preRow_of_cond 8 hx (by kernel_rfl) (fun k hk => by cases hk; kernel_rfl) (by kernel_rfl) (door_met os _))) ?_
  intro W base args ds gs before hval0 hW _ hcond hsz0 hL _ _
  have hk_ := hcond _ rfl
  have hsz : (DataW.weightsEach Tryd.prog (Tryd.f3.params.toList ++ Rows.treeBackSpec.plain.varTypes Tryd.prog) (ds ++ gs)).all (· ≤ reachBytes) = true := hsz0
  have hval : ∀ (j : Nat) t v, Tryd.f3.params[j]? = some t → args[j]? = some v → Value.okWide Tryd.prog W .any base t v := hval0
  have hW' := hW
  obtain ⟨p, q, hA0, hV, rfl, hfz, hnd⟩ := hW
  have hA : DataW.TrodAll enc Tryd.prog W 0 (fun _ => true) true Tryd.f3.params.toList args.toList ds p := hA0
  rw [Tryd.params3] at hA hval hsz
  obtain ⟨v0, vs0, d0, ds0, p0, q0, hargs, rfl, rfl, h0, r0⟩ := trodAll_cons hA
  obtain ⟨v1, vs1, d1, ds1, p1, q1, rfl, rfl, rfl, h1, r1⟩ := trodAll_cons r0
  obtain ⟨v2, vs2, d2, ds2, p2, q2, rfl, rfl, rfl, h2, r2⟩ := trodAll_cons r1
  obtain ⟨rfl, rfl, rfl⟩ := trodAll_nil r2
  obtain rfl : args = #[v0, v1, v2] := by cases args; simp_all
  obtain ⟨rfl, rfl⟩ := trodVars_none hV
  have k0 := h0
  have lt0 : ∀ x ∈ p0, x.block < W.heap.size := by obtain ⟨m, hm⟩ := k0; exact DataW.trod_lt m _ _ _ hm
  obtain ⟨c0_0, c0_1, c0_2, c0_3, x0_0, x0_1, x0_2, x0_3, m0, rfl, rfl, g0_0, g0_1, g0_2, g0_3⟩ := open_agg_4 Tryd.underlying24 (by kernel_rfl) (by kernel_rfl) (hval 0 24 v0 rfl rfl) h0
  obtain ⟨a0_0, e0_0, _, w0_0⟩ := DataW.trod_int Tryd.underlying3 g0_0
  obtain rfl : c0_0 = .int .i64 a0_0 := by simpa using e0_0
  obtain ⟨a0_1, e0_1, _, w0_1⟩ := DataW.trod_int Tryd.underlying3 g0_1
  obtain rfl : c0_1 = .int .i64 a0_1 := by simpa using e0_1
  obtain ⟨a0_3, e0_3, _, w0_3⟩ := DataW.trod_int Tryd.underlying3 g0_3
  obtain rfl : c0_3 = .int .i64 a0_3 := by simpa using e0_3
  have k1 := h1
  have lt1 : ∀ x ∈ p1, x.block < W.heap.size := by obtain ⟨m, hm⟩ := k1; exact DataW.trod_lt m _ _ _ hm
  obtain ⟨c1_0, c1_1, c1_2, c1_3, x1_0, x1_1, x1_2, x1_3, m1, rfl, rfl, g1_0, g1_1, g1_2, g1_3⟩ := open_agg_4 Tryd.underlying24 (by kernel_rfl) (by kernel_rfl) (hval 1 24 v1 rfl rfl) h1
  obtain ⟨a1_0, e1_0, _, w1_0⟩ := DataW.trod_int Tryd.underlying3 g1_0
  obtain rfl : c1_0 = .int .i64 a1_0 := by simpa using e1_0
  obtain ⟨a1_1, e1_1, _, w1_1⟩ := DataW.trod_int Tryd.underlying3 g1_1
  obtain rfl : c1_1 = .int .i64 a1_1 := by simpa using e1_1
  obtain ⟨a1_3, e1_3, _, w1_3⟩ := DataW.trod_int Tryd.underlying3 g1_3
  obtain rfl : c1_3 = .int .i64 a1_3 := by simpa using e1_3
  have k2 := h2
  have lt2 : ∀ x ∈ p2, x.block < W.heap.size := by obtain ⟨m, hm⟩ := k2; exact DataW.trod_lt m _ _ _ hm
  obtain ⟨a2, rfl, rfl, rfl, y2⟩ := open_string Tryd.underlying9 (hval 2 9 v2 rfl rfl) h2
  have w2 : a2.size ≤ 140737488351232 := by
    have z := sized_string hsz (j := 2) (t := 9) rfl rfl
    rw [Array.length_toList] at z
    exact z
  clear hA0 hval0 hsz0
  clear hsz
  have done : ∀ W', Below W.heap.size W W' → ∃ r, (Ending.returned (.bool true)) = .returned r ∧ Rows.treeBackSpec.post enc Tryd.prog Tryd.f3 false true false false W #[.agg #[.int .i64 a0_0, .int .i64 a0_1, c0_2, .int .i64 a0_3], .agg #[.int .i64 a1_0, .int .i64 a1_1, c1_2, .int .i64 a1_3], .string a2] r W' := fun W' bel =>
    ⟨_, rfl, _, _, _, [], _, [], hW', trodAll_mk1 (shut_bool Tryd.underlying4 _), (trodAll_cons_mk (Below.trod laidOut (by kernel_rfl) (of_decide_eq_true (by kernel_rfl)) k0 bel lt0) (trodAll_cons_mk (Below.trod laidOut (by kernel_rfl) (of_decide_eq_true (by kernel_rfl)) k1 bel lt1) (trodAll_cons_mk (Below.trod laidOut (by kernel_rfl) (of_decide_eq_true (by kernel_rfl)) k2 bel lt2) trodAll_mk0))), rfl, bel.frame _, fun h => by cases h⟩
  have hb_ := of_decide_eq_true hk_
  have hb0 : Rows.uptoBulk x0_2.1 ≤ 1048576 := by simp only [List.append_nil, Rows.uptoBulkAll, Rows.uptoBulk] at hb_; omega
  obtain ⟨A0, c0, l0, rfl, hl0, hC0, hy0, hn0, hk0, hw0⟩ := OpenTree.open_nodes hb0 g0_2
  have hb1 : Rows.uptoBulk x1_2.1 ≤ 1048576 := by simp only [List.append_nil, Rows.uptoBulkAll, Rows.uptoBulk] at hb_; omega
  obtain ⟨A1, c1, l1, rfl, hl1, hC1, hy1, hn1, hk1, hw1⟩ := OpenTree.open_nodes hb1 g1_2
  refine (ParseT.back_walk a0_0 a0_1 a0_3 A0 c0 l0 a1_0 a1_1 a1_3 A1 c1 l1 a2 W (pow10 hL) hC0 hl0 (by omega) (fun j => Nat.le_trans (hk0 j) (by decide)) hy0 hC1 hl1 (by omega) (fun j => Nat.le_trans (hk1 j) (by decide)) hy1).mono fun e W' ⟨he, bel⟩ => ?_
  subst he
  exact done W' bel
theorem said : Rows.TreeBackUptoSaid :=
  OpenClaim.holds_of_cond 3 Tryd.f3 rfl rfl rfl rfl rfl rfl rfl ⟨rfl, rfl, rfl, rfl, rfl⟩ rfl rfl rfl rfl rfl (by kernel_rfl) Tryd.func3 (by kernel_rfl)
    (of_decide_eq_true (by kernel_rfl)) (by unfold Func.isWrapper; first | (rw [if_pos (by decide +kernel)]; kernel_rfl) | (rw [if_neg (by decide +kernel)]; exact ⟨rfl, rfl⟩))
    (fun os started H enc _ F => by rw [OpenClaim.pre_eq_preRow]; exact lifted os started H enc F)
theorem plain (f : FuncId) (fn : Func) (hf : Tryd.pinned.checked.prog.funcNamed "vivarium/vivariumlaw11.TreeBack" = some f) (hfn : Tryd.pinned.checked.prog.funcs[f]? = some fn) :
    false = Tryd.pinned.checked.prog.looks [] ∧ ∀ (j : Nat) t, fn.params[j]? = some t → Tryd.pinned.checked.prog.wantsStandIn t = false := by
  obtain rfl : f = 3 := Option.some.inj ((show Tryd.prog.funcNamed "vivarium/vivariumlaw11.TreeBack" = some 3 by kernel_rfl).symm.trans hf) |>.symm
  obtain rfl : fn = Tryd.f3 := (Option.some.inj (Tryd.func3.symm.trans hfn)).symm
  refine ⟨by kernel_rfl, fun j t ht => ?_⟩
  rw [Tryd.params3] at ht
  have hm : t ∈ [24, 24, 9] := by simpa using Array.mem_of_getElem? ht
  have hall : ([24, 24, 9].all fun u => !Tryd.prog.wantsStandIn u) = true := by kernel_rfl
  exact (show Tryd.prog.wantsStandIn t = false by simpa using List.all_eq_true.1 hall t hm)
theorem card : Rows.TreeBackUptoCardSaid :=
  Claim7.holds_tied_plain_at .later [] _ _ _ _ said (fun _ h => by cases h) (by kernel_rfl) (fun _ h => by cases h) treeBackUpto_row_tie rfl ⟨rfl, rfl⟩ (by kernel_rfl) rfl plain (by kernel_rfl)
end Go.Proofs.YtbnonnogkgbpiaaDoor.treeBack
namespace Go.Proofs.YtbnonnogkgbpiaaDoor
theorem treeBack_holds : Rows.TreeBackUptoCardSaid := treeBack.card
#print axioms treeBack_holds
end Go.Proofs.YtbnonnogkgbpiaaDoor
end
