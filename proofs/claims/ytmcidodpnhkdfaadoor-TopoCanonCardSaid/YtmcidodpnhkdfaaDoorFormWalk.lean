/- reader.form: a whole text behind its letter. -/
import Derived.Test.YtmcidodpnhkdfaaDoorPart
namespace Go.Proofs.YtmcidodpnhkdfaaDoor.FormWalk
open Go.RowKit Go.Proofs.YtmcidodpnhkdfaaDoorW.PrintWords Go.Proofs.YtmcidodpnhkdfaaDoorW.PrintLast Go.Proofs.YtmcidodpnhkdfaaDoorW.PrintMore Go.Proofs.YtmcidodpnhkdfaaDoor.ParseSpec Go.Proofs.YtmcidodpnhkdfaaDoor.PQn Go.Proofs.YtmcidodpnhkdfaaDoor.Idx Go.Proofs.YtmcidodpnhkdfaaDoor.PQ Go.Proofs.YtmcidodpnhkdfaaDoor.PartPlain Go.Proofs.YtmcidodpnhkdfaaDoor.PartWalk
set_option linter.unusedVariables false
set_option linter.unusedSimpArgs false
/-- Where a slice's row is: as it was, or new. -/
def Own (w : World) (pv pv' : Value) : Prop := pv'.ownBlock = pv.ownBlock ∨ ∃ b, pv'.ownBlock = some b ∧ w.heap.size ≤ b
theorem ownThen {w W : World} {pv pv1 pv2 : Value} {g : Nat} {row : Option Nat} (h : Own w pv pv1) (hk : KeepBut w W g row) (h2 : pv2.ownBlock = pv1.ownBlock ∨ ∃ b, pv2.ownBlock = some b ∧ W.heap.size ≤ b) : Own w pv pv2 := by
  rcases h2 with h2 | ⟨b, h2, h3⟩
  · rcases h with h | ⟨b, h, h4⟩
    · exact .inl (h2.trans h)
    · exact .inr ⟨b, h2.trans h, h4⟩
  · exact .inr ⟨b, h2, Nat.le_trans hk.1 h3⟩
theorem keepThen {w W W2 : World} {pv pv1 : Value} {g : Nat} (hk : KeepBut w W g pv.ownBlock) (h2 : KeepBut W W2 g pv1.ownBlock) (h : Own w pv pv1) : KeepBut w W2 g pv.ownBlock := hk.trans h2 h
theorem keepNone {w W W2 : World} {g : Nat} {row : Option Nat} (hk : KeepBut w W g row) (h2 : KeepBut W W2 g none) : KeepBut w W2 g row :=
  ⟨Nat.le_trans hk.1 h2.1, fun i hi hg hr => (h2.2 i (Nat.lt_of_lt_of_le hi hk.1) hg (by simp)).trans (hk.2 i hi hg hr)⟩
theorem rNone {W W2 : World} {g at_ base : Nat} {x y z : Value} {pv : Value} {ps : List S72} (h : Kd.R k72 72 W base (fun _ => True) pv ps) (hG : W.heap[g]? = some (.cells #[x, y, z] 66 (0, 0))) (hk : KeepBut W W2 g none) : Kd.R k72 72 W2 base (fun _ => True) pv ps :=
  Kd.R_mono (Kd.R_keep (Kd.R_types h hG (by decide)) hk (fun _ hk => hk.2)) (fun _ _ => trivial)
theorem rSet {W : World} {g base j : Nat} {x y z u : Value} {pv : Value} {ps : List S72} (h : Kd.R k72 72 W base (fun _ => True) pv ps) (hG : W.heap[g]? = some (.cells #[x, y, z] 66 (0, 0))) : Kd.R k72 72 (W.setCell ⟨g, j, none⟩ u) base (fun _ => True) pv ps :=
  Kd.R_mono (Kd.R_far (p := ⟨g, j, none⟩) (Kd.R_types h hG (by decide)) (fun _ hk => hk.2) u) (fun _ _ => trivial)

set_option maxHeartbeats 4000000 in
set_option maxRecDepth 100000 in
theorem f_none (s : ByteArray) (k : Int) (pv : Value) (g : Nat) (w0 w : World) (hs : s.size ≤ 1048576) (h1s : 1 ≤ s.size) (hG : w.heap[g]? = some (.cells #[.string s, .int .i64 1, pv] 66 (0, 0))) (hge : w0.heap.size ≤ g) (hR : Kd.R k72 72 w w0.heap.size (fun _ => True) pv []) (hB : Below w0.heap.size w0 w)
    (h0 : s.size = 1 ∧ k ≤ 2) :
    Calls Tryd.prog 32 #[.pointer (some ⟨g, 0, none⟩), .int .u8 k] w fun e w' => e = .returned (.int .i64 0) ∧ After w0 w w' g s (1 : Int) pv [] := by
  replace hs := Aside0.mk hs
  have H1 := Aside0.mk h1s
  have HR := Aside0.mk hR
  have HG := Aside0.mk hG
  have HGE := Aside0.mk hge
  have HB := Aside0.mk hB
  have HK := Aside0.mk (show KeepBut w w g pv.ownBlock from KeepBut.refl w g _)
  have HO := Aside0.mk (show Own w pv pv from .inl rfl)
  have HX := HO
  have H0 := Aside0.mk h0
  clear h1s hG hge hR hB h0
  have gc0 := (blk_cell HG.out 0).trans (show ((#[Value.string s, .int .i64 1, pv] : Array Value)[0]?) = some (Value.string s) from rfl)
  have gc1 := (blk_cell HG.out 1).trans (show ((#[Value.string s, .int .i64 1, pv] : Array Value)[1]?) = some (Value.int .i64 1) from rfl)
  have gf1 := blk_frozen HG.out 1
  go_enter Tryd.func32, Tryd.ntmps32
  go_upto_region 1 with fail
  go_cut [20] (fun v20 wc => v20 = .bool true ∧ ∃ n, wc = w.drewN n)
  case first =>
    have b1 : ((1 : Int) == (s.size : Int)) = true := by have := H0.out.1; rw [this]; rfl
    have b2 : decide (k ≤ 2) = true := decide_eq_true H0.out.2
    go_quiet (fail)
    go_wp2
    go_meet
    exact ⟨rfl, _, rfl⟩
  case rest =>
    obtain ⟨rfl, n, rfl⟩ := hcut
    clear gc0 gc1 gf1
    have HR' := Aside0.mk (Kd.R_drewN HR.out n)
    have HG' := Aside0.mk (blk_drewN HG.out n)
    have HB' := Aside0.mk (pw_below_drewN HB.out n)
    have HK' := Aside0.mk (keep_drewN HK.out n)
    clear HR HG HB HK
    generalize w.drewN n = wx at HR' HG' HB' HK' ⊢
    have HR := HR'
    have HG := HG'
    have HB := HB'
    have HK := HK'
    clear HR' HG' HB' HK'
    have gc0 := (blk_cell HG.out 0).trans (show ((#[Value.string s, .int .i64 1, pv] : Array Value)[0]?) = some (Value.string s) from rfl)
    have gc1 := (blk_cell HG.out 1).trans (show ((#[Value.string s, .int .i64 1, pv] : Array Value)[1]?) = some (Value.int .i64 1) from rfl)
    have gf1 := blk_frozen HG.out 1
    go_wp2
    go_ret
    exact ⟨rfl, pv, HG.out, HR.out, HB.out, HK.out, HO.out⟩
set_option maxHeartbeats 4000000 in
set_option maxRecDepth 100000 in
theorem f_bad (s : ByteArray) (k : Int) (p : Pt) (a : Nat) (er : Int) (pv : Value) (g : Nat) (w0 w : World) (hs : s.size ≤ 1048576) (h1s : 1 ≤ s.size) (hG : w.heap[g]? = some (.cells #[.string s, .int .i64 1, pv] 66 (0, 0))) (hge : w0.heap.size ≤ g) (hR : Kd.R k72 72 w w0.heap.size (fun _ => True) pv []) (hB : Below w0.heap.size w0 w)
    (h0 : ¬ (s.size = 1 ∧ k ≤ 2)) (hT : takes s 1 (k != 5) = (p, a, er)) (he : er ≠ 0) :
    Calls Tryd.prog 32 #[.pointer (some ⟨g, 0, none⟩), .int .u8 k] w fun e w' => e = .returned (.int .i64 er) ∧ After w0 w w' g s (a : Int) pv [] := by
  replace hs := Aside0.mk hs
  have H1 := Aside0.mk h1s
  have HR := Aside0.mk hR
  have HG := Aside0.mk hG
  have HGE := Aside0.mk hge
  have HB := Aside0.mk hB
  have HK := Aside0.mk (show KeepBut w w g pv.ownBlock from KeepBut.refl w g _)
  have HO := Aside0.mk (show Own w pv pv from .inl rfl)
  have HX := HO
  have H0 := Aside0.mk h0
  have HE : (er != 0) = true := by simpa using he
  have HE2 := Aside0.mk he
  have HT := Aside0.mk hT
  clear h1s hG hge hR hB h0 hT he
  have gc0 := (blk_cell HG.out 0).trans (show ((#[Value.string s, .int .i64 1, pv] : Array Value)[0]?) = some (Value.string s) from rfl)
  have gc1 := (blk_cell HG.out 1).trans (show ((#[Value.string s, .int .i64 1, pv] : Array Value)[1]?) = some (Value.int .i64 1) from rfl)
  have gf1 := blk_frozen HG.out 1
  go_enter Tryd.func32, Tryd.ntmps32
  go_upto_region 1 with fail
  go_cut [20] (fun v20 wc => v20 = .bool false ∧ ∃ n, wc = w.drewN n)
  case first =>
    by_cases c : s.size = 1
    · have b1 : ((1 : Int) == (s.size : Int)) = true := by rw [c]; rfl
      have b2 : decide (k ≤ 2) = false := decide_eq_false (fun h => H0.out ⟨c, h⟩)
      clear c
      go_quiet (fail)
      go_wp2
      go_meet
      exact ⟨rfl, _, rfl⟩
    · have b1 : ((1 : Int) == (s.size : Int)) = false := by simp only [beq_eq_false_iff_ne, ne_eq]; omega
      clear c
      go_quiet (fail)
      go_wp2
      go_meet
      exact ⟨rfl, _, rfl⟩
  case rest =>
    obtain ⟨rfl, n, rfl⟩ := hcut
    clear gc0 gc1 gf1
    have HR' := Aside0.mk (Kd.R_drewN HR.out n)
    have HG' := Aside0.mk (blk_drewN HG.out n)
    have HB' := Aside0.mk (pw_below_drewN HB.out n)
    have HK' := Aside0.mk (keep_drewN HK.out n)
    clear HR HG HB HK
    generalize w.drewN n = wx at HR' HG' HB' HK' ⊢
    have HR := HR'
    have HG := HG'
    have HB := HB'
    have HK := HK'
    clear HR' HG' HB' HK'
    have gc0 := (blk_cell HG.out 0).trans (show ((#[Value.string s, .int .i64 1, pv] : Array Value)[0]?) = some (Value.string s) from rfl)
    have gc1 := (blk_cell HG.out 1).trans (show ((#[Value.string s, .int .i64 1, pv] : Array Value)[1]?) = some (Value.int .i64 1) from rfl)
    have gf1 := blk_frozen HG.out 1
    go_wp2_with (first | (go_at_call 41; (with_reducible refine (Go.Proofs.YtmcidodpnhkdfaaDoor.PartWalk.part s 1 (k != 5) pv [] g w0 _ hs.out H1.out (by simp) HG.out HGE.out HR.out HB.out).mono ?_); rw [HT.out]; rintro e wa ⟨rfl, pv1, hg_, hr_, hb_, hk_, hx_⟩; (try clear gc0 gc1 gf1); replace HX := Aside0.mk (ownThen HX.out HK.out hx_); replace HK := Aside0.mk (keepThen HK.out hk_ HO.out); have hr2_ : Kd.R k72 72 wa w0.heap.size (fun _ => True) pv1 [] := (by first | (rw [if_pos rfl] at hr_; exact hr_) | (rw [if_neg HE2.out] at hr_; exact hr_)); replace HG := Aside0.mk hg_; replace HR := Aside0.mk hr2_; clear hr2_; replace HB := Aside0.mk hb_; replace HO := HX; clear hg_ hr_ hb_ hk_ hx_; have gc0 := (blk_cell HG.out 0).trans (show ((#[Value.string s, .int .i64 (a : Int), pv1] : Array Value)[0]?) = some (Value.string s) from rfl); have gc1 := (blk_cell HG.out 1).trans (show ((#[Value.string s, .int .i64 (a : Int), pv1] : Array Value)[1]?) = some (Value.int .i64 (a : Int)) from rfl); have gf1 := blk_frozen HG.out 1))
    go_ret
    exact ⟨rfl, pv1, HG.out, HR.out, HB.out, HK.out, HO.out⟩
set_option maxHeartbeats 4000000 in
set_option maxRecDepth 100000 in
theorem f_one0 (s : ByteArray) (k : Int) (p : Pt) (a : Nat) (pv : Value) (g : Nat) (w0 w : World) (hs : s.size ≤ 1048576) (h1s : 1 ≤ s.size) (hG : w.heap[g]? = some (.cells #[.string s, .int .i64 1, pv] 66 (0, 0))) (hge : w0.heap.size ≤ g) (hR : Kd.R k72 72 w w0.heap.size (fun _ => True) pv []) (hB : Below w0.heap.size w0 w)
    (h0 : ¬ (s.size = 1 ∧ k ≤ 2)) (hT : takes s 1 (k != 5) = (p, a, 0)) (ha : a ≤ s.size) (h5 : k ≠ 5) (n3 : nxt s a [44] = false) (hm : ¬ a < s.size) :
    Calls Tryd.prog 32 #[.pointer (some ⟨g, 0, none⟩), .int .u8 k] w fun e w' => e = .returned (.int .i64 0) ∧ After w0 w w' g s (a : Int) pv [toS p] := by
  replace hs := Aside0.mk hs
  have H1 := Aside0.mk h1s
  have HR := Aside0.mk hR
  have HG := Aside0.mk hG
  have HGE := Aside0.mk hge
  have HB := Aside0.mk hB
  have HK := Aside0.mk (show KeepBut w w g pv.ownBlock from KeepBut.refl w g _)
  have HO := Aside0.mk (show Own w pv pv from .inl rfl)
  have HX := HO
  have H0 := Aside0.mk h0
  have HA := Aside0.mk ha
  have H5 : (k != 5) = true := by simpa using h5
  have N3 : Aside0 (∀ v, topo_reader_next.f s (a : Int) v ⟨#[44]⟩ = some (false, s, (a : Int))) := ⟨fun v => by have h_ := next_comma s v a; rw [n3] at h_; exact h_⟩
  rw [H5] at hT
  have HT := Aside0.mk hT
  have HM : decide ((a : Int) < (s.size : Int)) = false := by first | exact decide_eq_true (by omega) | exact decide_eq_false (by omega)
  have HM2 : decide (a < s.size) = false := by first | exact decide_eq_true (by omega) | exact decide_eq_false (by omega)
  have HM3 : (s.size : Int) ≤ (a : Int) := by omega
  clear hm
  clear h1s hG hge hR hB h0 hT ha h5 n3
  have gc0 := (blk_cell HG.out 0).trans (show ((#[Value.string s, .int .i64 1, pv] : Array Value)[0]?) = some (Value.string s) from rfl)
  have gc1 := (blk_cell HG.out 1).trans (show ((#[Value.string s, .int .i64 1, pv] : Array Value)[1]?) = some (Value.int .i64 1) from rfl)
  have gf1 := blk_frozen HG.out 1
  go_enter Tryd.func32, Tryd.ntmps32
  go_upto_region 1 with fail
  go_cut [20] (fun v20 wc => v20 = .bool false ∧ ∃ n, wc = w.drewN n)
  case first =>
    by_cases c : s.size = 1
    · have b1 : ((1 : Int) == (s.size : Int)) = true := by rw [c]; rfl
      have b2 : decide (k ≤ 2) = false := decide_eq_false (fun h => H0.out ⟨c, h⟩)
      clear c
      go_quiet (fail)
      go_wp2
      go_meet
      exact ⟨rfl, _, rfl⟩
    · have b1 : ((1 : Int) == (s.size : Int)) = false := by simp only [beq_eq_false_iff_ne, ne_eq]; omega
      clear c
      go_quiet (fail)
      go_wp2
      go_meet
      exact ⟨rfl, _, rfl⟩
  case rest =>
    obtain ⟨rfl, n, rfl⟩ := hcut
    clear gc0 gc1 gf1
    have HR' := Aside0.mk (Kd.R_drewN HR.out n)
    have HG' := Aside0.mk (blk_drewN HG.out n)
    have HB' := Aside0.mk (pw_below_drewN HB.out n)
    have HK' := Aside0.mk (keep_drewN HK.out n)
    clear HR HG HB HK
    generalize w.drewN n = wx at HR' HG' HB' HK' ⊢
    have HR := HR'
    have HG := HG'
    have HB := HB'
    have HK := HK'
    clear HR' HG' HB' HK'
    have gc0 := (blk_cell HG.out 0).trans (show ((#[Value.string s, .int .i64 1, pv] : Array Value)[0]?) = some (Value.string s) from rfl)
    have gc1 := (blk_cell HG.out 1).trans (show ((#[Value.string s, .int .i64 1, pv] : Array Value)[1]?) = some (Value.int .i64 1) from rfl)
    have gf1 := blk_frozen HG.out 1
    go_upto_region 11 with (first | (go_at_call 41; (with_reducible refine (Go.Proofs.YtmcidodpnhkdfaaDoor.PartWalk.part s 1 true pv [] g w0 _ hs.out H1.out (by simp) HG.out HGE.out HR.out HB.out).mono ?_); rw [HT.out]; rintro e wa ⟨rfl, pv1, hg_, hr_, hb_, hk_, hx_⟩; (try clear gc0 gc1 gf1); replace HX := Aside0.mk (ownThen HX.out HK.out hx_); replace HK := Aside0.mk (keepThen HK.out hk_ HO.out); have hr2_ : Kd.R k72 72 wa w0.heap.size (fun _ => True) pv1 [toS p] := (by first | (rw [if_pos rfl] at hr_; exact hr_) | (rw [if_neg HE2.out] at hr_; exact hr_)); replace HG := Aside0.mk hg_; replace HR := Aside0.mk hr2_; clear hr2_; replace HB := Aside0.mk hb_; replace HO := HX; clear hg_ hr_ hb_ hk_ hx_; have gc0 := (blk_cell HG.out 0).trans (show ((#[Value.string s, .int .i64 (a : Int), pv1] : Array Value)[0]?) = some (Value.string s) from rfl); have gc1 := (blk_cell HG.out 1).trans (show ((#[Value.string s, .int .i64 (a : Int), pv1] : Array Value)[1]?) = some (Value.int .i64 (a : Int)) from rfl); have gf1 := blk_frozen HG.out 1) | (go_at_call 42; (with_reducible refine (topo_reader_next.calls g s (a : Int) pv1 ⟨#[44]⟩ false s (a : Int) w0 _ ?h1 ?h2 (N3.out _)).mono ?_); (case h1 => exact ⟨HG.out, HGE.out⟩); (case h2 => exact HB.out); rintro e wb ⟨rfl, hi_, hb_, hk_⟩; (try clear gc0 gc1 gf1); replace HR := Aside0.mk (rNone (at_ := 0) HR.out HG.out hk_); replace HG := Aside0.mk hi_.1; replace HB := Aside0.mk hb_; replace HK := Aside0.mk (keepNone HK.out hk_); clear hi_ hb_ hk_; have gc0 := (blk_cell HG.out 0).trans (show ((#[Value.string s, .int .i64 (a : Int), pv1] : Array Value)[0]?) = some (Value.string s) from rfl); have gc1 := (blk_cell HG.out 1).trans (show ((#[Value.string s, .int .i64 (a : Int), pv1] : Array Value)[1]?) = some (Value.int .i64 (a : Int)) from rfl); have gf1 := blk_frozen HG.out 1))
    go_quiet (fail)
    go_wp2
    go_ret
    have HR' := Aside0.mk (Kd.R_drewN HR.out nq)
    have HG' := Aside0.mk (blk_drewN HG.out nq)
    have HB' := Aside0.mk (pw_below_drewN HB.out nq)
    have HK' := Aside0.mk (keep_drewN HK.out nq)
    exact ⟨rfl, pv1, HG'.out, HR'.out, HB'.out, HK'.out, HO.out⟩
set_option maxHeartbeats 4000000 in
set_option maxRecDepth 100000 in
theorem f_one1 (s : ByteArray) (k : Int) (p : Pt) (a : Nat) (pv : Value) (g : Nat) (w0 w : World) (hs : s.size ≤ 1048576) (h1s : 1 ≤ s.size) (hG : w.heap[g]? = some (.cells #[.string s, .int .i64 1, pv] 66 (0, 0))) (hge : w0.heap.size ≤ g) (hR : Kd.R k72 72 w w0.heap.size (fun _ => True) pv []) (hB : Below w0.heap.size w0 w)
    (h0 : ¬ (s.size = 1 ∧ k ≤ 2)) (hT : takes s 1 (k != 5) = (p, a, 0)) (ha : a ≤ s.size) (h5 : k ≠ 5) (n3 : nxt s a [44] = false) (hm : a < s.size) :
    Calls Tryd.prog 32 #[.pointer (some ⟨g, 0, none⟩), .int .u8 k] w fun e w' => e = .returned (.int .i64 45) ∧ After w0 w w' g s (a : Int) pv [toS p] := by
  replace hs := Aside0.mk hs
  have H1 := Aside0.mk h1s
  have HR := Aside0.mk hR
  have HG := Aside0.mk hG
  have HGE := Aside0.mk hge
  have HB := Aside0.mk hB
  have HK := Aside0.mk (show KeepBut w w g pv.ownBlock from KeepBut.refl w g _)
  have HO := Aside0.mk (show Own w pv pv from .inl rfl)
  have HX := HO
  have H0 := Aside0.mk h0
  have HA := Aside0.mk ha
  have H5 : (k != 5) = true := by simpa using h5
  have N3 : Aside0 (∀ v, topo_reader_next.f s (a : Int) v ⟨#[44]⟩ = some (false, s, (a : Int))) := ⟨fun v => by have h_ := next_comma s v a; rw [n3] at h_; exact h_⟩
  rw [H5] at hT
  have HT := Aside0.mk hT
  have HM : decide ((a : Int) < (s.size : Int)) = true := by first | exact decide_eq_true (by omega) | exact decide_eq_false (by omega)
  have HM2 : decide (a < s.size) = true := by first | exact decide_eq_true (by omega) | exact decide_eq_false (by omega)
  have HM3 : (a : Int) < (s.size : Int) := by omega
  clear hm
  clear h1s hG hge hR hB h0 hT ha h5 n3
  have gc0 := (blk_cell HG.out 0).trans (show ((#[Value.string s, .int .i64 1, pv] : Array Value)[0]?) = some (Value.string s) from rfl)
  have gc1 := (blk_cell HG.out 1).trans (show ((#[Value.string s, .int .i64 1, pv] : Array Value)[1]?) = some (Value.int .i64 1) from rfl)
  have gf1 := blk_frozen HG.out 1
  go_enter Tryd.func32, Tryd.ntmps32
  go_upto_region 1 with fail
  go_cut [20] (fun v20 wc => v20 = .bool false ∧ ∃ n, wc = w.drewN n)
  case first =>
    by_cases c : s.size = 1
    · have b1 : ((1 : Int) == (s.size : Int)) = true := by rw [c]; rfl
      have b2 : decide (k ≤ 2) = false := decide_eq_false (fun h => H0.out ⟨c, h⟩)
      clear c
      go_quiet (fail)
      go_wp2
      go_meet
      exact ⟨rfl, _, rfl⟩
    · have b1 : ((1 : Int) == (s.size : Int)) = false := by simp only [beq_eq_false_iff_ne, ne_eq]; omega
      clear c
      go_quiet (fail)
      go_wp2
      go_meet
      exact ⟨rfl, _, rfl⟩
  case rest =>
    obtain ⟨rfl, n, rfl⟩ := hcut
    clear gc0 gc1 gf1
    have HR' := Aside0.mk (Kd.R_drewN HR.out n)
    have HG' := Aside0.mk (blk_drewN HG.out n)
    have HB' := Aside0.mk (pw_below_drewN HB.out n)
    have HK' := Aside0.mk (keep_drewN HK.out n)
    clear HR HG HB HK
    generalize w.drewN n = wx at HR' HG' HB' HK' ⊢
    have HR := HR'
    have HG := HG'
    have HB := HB'
    have HK := HK'
    clear HR' HG' HB' HK'
    have gc0 := (blk_cell HG.out 0).trans (show ((#[Value.string s, .int .i64 1, pv] : Array Value)[0]?) = some (Value.string s) from rfl)
    have gc1 := (blk_cell HG.out 1).trans (show ((#[Value.string s, .int .i64 1, pv] : Array Value)[1]?) = some (Value.int .i64 1) from rfl)
    have gf1 := blk_frozen HG.out 1
    go_upto_region 11 with (first | (go_at_call 41; (with_reducible refine (Go.Proofs.YtmcidodpnhkdfaaDoor.PartWalk.part s 1 true pv [] g w0 _ hs.out H1.out (by simp) HG.out HGE.out HR.out HB.out).mono ?_); rw [HT.out]; rintro e wa ⟨rfl, pv1, hg_, hr_, hb_, hk_, hx_⟩; (try clear gc0 gc1 gf1); replace HX := Aside0.mk (ownThen HX.out HK.out hx_); replace HK := Aside0.mk (keepThen HK.out hk_ HO.out); have hr2_ : Kd.R k72 72 wa w0.heap.size (fun _ => True) pv1 [toS p] := (by first | (rw [if_pos rfl] at hr_; exact hr_) | (rw [if_neg HE2.out] at hr_; exact hr_)); replace HG := Aside0.mk hg_; replace HR := Aside0.mk hr2_; clear hr2_; replace HB := Aside0.mk hb_; replace HO := HX; clear hg_ hr_ hb_ hk_ hx_; have gc0 := (blk_cell HG.out 0).trans (show ((#[Value.string s, .int .i64 (a : Int), pv1] : Array Value)[0]?) = some (Value.string s) from rfl); have gc1 := (blk_cell HG.out 1).trans (show ((#[Value.string s, .int .i64 (a : Int), pv1] : Array Value)[1]?) = some (Value.int .i64 (a : Int)) from rfl); have gf1 := blk_frozen HG.out 1) | (go_at_call 42; (with_reducible refine (topo_reader_next.calls g s (a : Int) pv1 ⟨#[44]⟩ false s (a : Int) w0 _ ?h1 ?h2 (N3.out _)).mono ?_); (case h1 => exact ⟨HG.out, HGE.out⟩); (case h2 => exact HB.out); rintro e wb ⟨rfl, hi_, hb_, hk_⟩; (try clear gc0 gc1 gf1); replace HR := Aside0.mk (rNone (at_ := 0) HR.out HG.out hk_); replace HG := Aside0.mk hi_.1; replace HB := Aside0.mk hb_; replace HK := Aside0.mk (keepNone HK.out hk_); clear hi_ hb_ hk_; have gc0 := (blk_cell HG.out 0).trans (show ((#[Value.string s, .int .i64 (a : Int), pv1] : Array Value)[0]?) = some (Value.string s) from rfl); have gc1 := (blk_cell HG.out 1).trans (show ((#[Value.string s, .int .i64 (a : Int), pv1] : Array Value)[1]?) = some (Value.int .i64 (a : Int)) from rfl); have gf1 := blk_frozen HG.out 1))
    go_quiet (fail)
    go_wp2
    go_ret
    have HR' := Aside0.mk (Kd.R_drewN HR.out nq)
    have HG' := Aside0.mk (blk_drewN HG.out nq)
    have HB' := Aside0.mk (pw_below_drewN HB.out nq)
    have HK' := Aside0.mk (keep_drewN HK.out nq)
    exact ⟨rfl, pv1, HG'.out, HR'.out, HB'.out, HK'.out, HO.out⟩
set_option maxHeartbeats 4000000 in
set_option maxRecDepth 100000 in
theorem f_oneS0 (s : ByteArray) (k : Int) (p : Pt) (a : Nat) (pv : Value) (g : Nat) (w0 w : World) (hs : s.size ≤ 1048576) (h1s : 1 ≤ s.size) (hG : w.heap[g]? = some (.cells #[.string s, .int .i64 1, pv] 66 (0, 0))) (hge : w0.heap.size ≤ g) (hR : Kd.R k72 72 w w0.heap.size (fun _ => True) pv []) (hB : Below w0.heap.size w0 w)
    (h0 : ¬ (s.size = 1 ∧ k ≤ 2)) (hT : takes s 1 (k != 5) = (p, a, 0)) (ha : a ≤ s.size) (h5 : k = 5) (hm : ¬ a < s.size) :
    Calls Tryd.prog 32 #[.pointer (some ⟨g, 0, none⟩), .int .u8 k] w fun e w' => e = .returned (.int .i64 0) ∧ After w0 w w' g s (a : Int) pv [toS p] := by
  replace hs := Aside0.mk hs
  have H1 := Aside0.mk h1s
  have HR := Aside0.mk hR
  have HG := Aside0.mk hG
  have HGE := Aside0.mk hge
  have HB := Aside0.mk hB
  have HK := Aside0.mk (show KeepBut w w g pv.ownBlock from KeepBut.refl w g _)
  have HO := Aside0.mk (show Own w pv pv from .inl rfl)
  have HX := HO
  have H0 := Aside0.mk h0
  have HA := Aside0.mk ha
  have H5 : (k != 5) = false := by simp [h5]
  rw [H5] at hT
  have HT := Aside0.mk hT
  have HM : decide ((a : Int) < (s.size : Int)) = false := by first | exact decide_eq_true (by omega) | exact decide_eq_false (by omega)
  have HM2 : decide (a < s.size) = false := by first | exact decide_eq_true (by omega) | exact decide_eq_false (by omega)
  have HM3 : (s.size : Int) ≤ (a : Int) := by omega
  clear hm
  clear h1s hG hge hR hB h0 hT ha h5
  have gc0 := (blk_cell HG.out 0).trans (show ((#[Value.string s, .int .i64 1, pv] : Array Value)[0]?) = some (Value.string s) from rfl)
  have gc1 := (blk_cell HG.out 1).trans (show ((#[Value.string s, .int .i64 1, pv] : Array Value)[1]?) = some (Value.int .i64 1) from rfl)
  have gf1 := blk_frozen HG.out 1
  go_enter Tryd.func32, Tryd.ntmps32
  go_upto_region 1 with fail
  go_cut [20] (fun v20 wc => v20 = .bool false ∧ ∃ n, wc = w.drewN n)
  case first =>
    by_cases c : s.size = 1
    · have b1 : ((1 : Int) == (s.size : Int)) = true := by rw [c]; rfl
      have b2 : decide (k ≤ 2) = false := decide_eq_false (fun h => H0.out ⟨c, h⟩)
      clear c
      go_quiet (fail)
      go_wp2
      go_meet
      exact ⟨rfl, _, rfl⟩
    · have b1 : ((1 : Int) == (s.size : Int)) = false := by simp only [beq_eq_false_iff_ne, ne_eq]; omega
      clear c
      go_quiet (fail)
      go_wp2
      go_meet
      exact ⟨rfl, _, rfl⟩
  case rest =>
    obtain ⟨rfl, n, rfl⟩ := hcut
    clear gc0 gc1 gf1
    have HR' := Aside0.mk (Kd.R_drewN HR.out n)
    have HG' := Aside0.mk (blk_drewN HG.out n)
    have HB' := Aside0.mk (pw_below_drewN HB.out n)
    have HK' := Aside0.mk (keep_drewN HK.out n)
    clear HR HG HB HK
    generalize w.drewN n = wx at HR' HG' HB' HK' ⊢
    have HR := HR'
    have HG := HG'
    have HB := HB'
    have HK := HK'
    clear HR' HG' HB' HK'
    have gc0 := (blk_cell HG.out 0).trans (show ((#[Value.string s, .int .i64 1, pv] : Array Value)[0]?) = some (Value.string s) from rfl)
    have gc1 := (blk_cell HG.out 1).trans (show ((#[Value.string s, .int .i64 1, pv] : Array Value)[1]?) = some (Value.int .i64 1) from rfl)
    have gf1 := blk_frozen HG.out 1
    go_upto_region 11 with (first | (go_at_call 41; (with_reducible refine (Go.Proofs.YtmcidodpnhkdfaaDoor.PartWalk.part s 1 false pv [] g w0 _ hs.out H1.out (by simp) HG.out HGE.out HR.out HB.out).mono ?_); rw [HT.out]; rintro e wa ⟨rfl, pv1, hg_, hr_, hb_, hk_, hx_⟩; (try clear gc0 gc1 gf1); replace HX := Aside0.mk (ownThen HX.out HK.out hx_); replace HK := Aside0.mk (keepThen HK.out hk_ HO.out); have hr2_ : Kd.R k72 72 wa w0.heap.size (fun _ => True) pv1 [toS p] := (by first | (rw [if_pos rfl] at hr_; exact hr_) | (rw [if_neg HE2.out] at hr_; exact hr_)); replace HG := Aside0.mk hg_; replace HR := Aside0.mk hr2_; clear hr2_; replace HB := Aside0.mk hb_; replace HO := HX; clear hg_ hr_ hb_ hk_ hx_; have gc0 := (blk_cell HG.out 0).trans (show ((#[Value.string s, .int .i64 (a : Int), pv1] : Array Value)[0]?) = some (Value.string s) from rfl); have gc1 := (blk_cell HG.out 1).trans (show ((#[Value.string s, .int .i64 (a : Int), pv1] : Array Value)[1]?) = some (Value.int .i64 (a : Int)) from rfl); have gf1 := blk_frozen HG.out 1))
    go_quiet (fail)
    go_wp2
    go_ret
    have HR' := Aside0.mk (Kd.R_drewN HR.out nq)
    have HG' := Aside0.mk (blk_drewN HG.out nq)
    have HB' := Aside0.mk (pw_below_drewN HB.out nq)
    have HK' := Aside0.mk (keep_drewN HK.out nq)
    exact ⟨rfl, pv1, HG'.out, HR'.out, HB'.out, HK'.out, HO.out⟩
set_option maxHeartbeats 4000000 in
set_option maxRecDepth 100000 in
theorem f_oneS1 (s : ByteArray) (k : Int) (p : Pt) (a : Nat) (pv : Value) (g : Nat) (w0 w : World) (hs : s.size ≤ 1048576) (h1s : 1 ≤ s.size) (hG : w.heap[g]? = some (.cells #[.string s, .int .i64 1, pv] 66 (0, 0))) (hge : w0.heap.size ≤ g) (hR : Kd.R k72 72 w w0.heap.size (fun _ => True) pv []) (hB : Below w0.heap.size w0 w)
    (h0 : ¬ (s.size = 1 ∧ k ≤ 2)) (hT : takes s 1 (k != 5) = (p, a, 0)) (ha : a ≤ s.size) (h5 : k = 5) (hm : a < s.size) :
    Calls Tryd.prog 32 #[.pointer (some ⟨g, 0, none⟩), .int .u8 k] w fun e w' => e = .returned (.int .i64 45) ∧ After w0 w w' g s (a : Int) pv [toS p] := by
  replace hs := Aside0.mk hs
  have H1 := Aside0.mk h1s
  have HR := Aside0.mk hR
  have HG := Aside0.mk hG
  have HGE := Aside0.mk hge
  have HB := Aside0.mk hB
  have HK := Aside0.mk (show KeepBut w w g pv.ownBlock from KeepBut.refl w g _)
  have HO := Aside0.mk (show Own w pv pv from .inl rfl)
  have HX := HO
  have H0 := Aside0.mk h0
  have HA := Aside0.mk ha
  have H5 : (k != 5) = false := by simp [h5]
  rw [H5] at hT
  have HT := Aside0.mk hT
  have HM : decide ((a : Int) < (s.size : Int)) = true := by first | exact decide_eq_true (by omega) | exact decide_eq_false (by omega)
  have HM2 : decide (a < s.size) = true := by first | exact decide_eq_true (by omega) | exact decide_eq_false (by omega)
  have HM3 : (a : Int) < (s.size : Int) := by omega
  clear hm
  clear h1s hG hge hR hB h0 hT ha h5
  have gc0 := (blk_cell HG.out 0).trans (show ((#[Value.string s, .int .i64 1, pv] : Array Value)[0]?) = some (Value.string s) from rfl)
  have gc1 := (blk_cell HG.out 1).trans (show ((#[Value.string s, .int .i64 1, pv] : Array Value)[1]?) = some (Value.int .i64 1) from rfl)
  have gf1 := blk_frozen HG.out 1
  go_enter Tryd.func32, Tryd.ntmps32
  go_upto_region 1 with fail
  go_cut [20] (fun v20 wc => v20 = .bool false ∧ ∃ n, wc = w.drewN n)
  case first =>
    by_cases c : s.size = 1
    · have b1 : ((1 : Int) == (s.size : Int)) = true := by rw [c]; rfl
      have b2 : decide (k ≤ 2) = false := decide_eq_false (fun h => H0.out ⟨c, h⟩)
      clear c
      go_quiet (fail)
      go_wp2
      go_meet
      exact ⟨rfl, _, rfl⟩
    · have b1 : ((1 : Int) == (s.size : Int)) = false := by simp only [beq_eq_false_iff_ne, ne_eq]; omega
      clear c
      go_quiet (fail)
      go_wp2
      go_meet
      exact ⟨rfl, _, rfl⟩
  case rest =>
    obtain ⟨rfl, n, rfl⟩ := hcut
    clear gc0 gc1 gf1
    have HR' := Aside0.mk (Kd.R_drewN HR.out n)
    have HG' := Aside0.mk (blk_drewN HG.out n)
    have HB' := Aside0.mk (pw_below_drewN HB.out n)
    have HK' := Aside0.mk (keep_drewN HK.out n)
    clear HR HG HB HK
    generalize w.drewN n = wx at HR' HG' HB' HK' ⊢
    have HR := HR'
    have HG := HG'
    have HB := HB'
    have HK := HK'
    clear HR' HG' HB' HK'
    have gc0 := (blk_cell HG.out 0).trans (show ((#[Value.string s, .int .i64 1, pv] : Array Value)[0]?) = some (Value.string s) from rfl)
    have gc1 := (blk_cell HG.out 1).trans (show ((#[Value.string s, .int .i64 1, pv] : Array Value)[1]?) = some (Value.int .i64 1) from rfl)
    have gf1 := blk_frozen HG.out 1
    go_upto_region 11 with (first | (go_at_call 41; (with_reducible refine (Go.Proofs.YtmcidodpnhkdfaaDoor.PartWalk.part s 1 false pv [] g w0 _ hs.out H1.out (by simp) HG.out HGE.out HR.out HB.out).mono ?_); rw [HT.out]; rintro e wa ⟨rfl, pv1, hg_, hr_, hb_, hk_, hx_⟩; (try clear gc0 gc1 gf1); replace HX := Aside0.mk (ownThen HX.out HK.out hx_); replace HK := Aside0.mk (keepThen HK.out hk_ HO.out); have hr2_ : Kd.R k72 72 wa w0.heap.size (fun _ => True) pv1 [toS p] := (by first | (rw [if_pos rfl] at hr_; exact hr_) | (rw [if_neg HE2.out] at hr_; exact hr_)); replace HG := Aside0.mk hg_; replace HR := Aside0.mk hr2_; clear hr2_; replace HB := Aside0.mk hb_; replace HO := HX; clear hg_ hr_ hb_ hk_ hx_; have gc0 := (blk_cell HG.out 0).trans (show ((#[Value.string s, .int .i64 (a : Int), pv1] : Array Value)[0]?) = some (Value.string s) from rfl); have gc1 := (blk_cell HG.out 1).trans (show ((#[Value.string s, .int .i64 (a : Int), pv1] : Array Value)[1]?) = some (Value.int .i64 (a : Int)) from rfl); have gf1 := blk_frozen HG.out 1))
    go_quiet (fail)
    go_wp2
    go_ret
    have HR' := Aside0.mk (Kd.R_drewN HR.out nq)
    have HG' := Aside0.mk (blk_drewN HG.out nq)
    have HB' := Aside0.mk (pw_below_drewN HB.out nq)
    have HK' := Aside0.mk (keep_drewN HK.out nq)
    exact ⟨rfl, pv1, HG'.out, HR'.out, HB'.out, HK'.out, HO.out⟩
set_option maxHeartbeats 4000000 in
set_option maxRecDepth 100000 in
theorem f_twobad (s : ByteArray) (k : Int) (p : Pt) (a : Nat) (q : Pt) (b : Nat) (er : Int) (pv : Value) (g : Nat) (w0 w : World) (hs : s.size ≤ 1048576) (h1s : 1 ≤ s.size) (hG : w.heap[g]? = some (.cells #[.string s, .int .i64 1, pv] 66 (0, 0))) (hge : w0.heap.size ≤ g) (hR : Kd.R k72 72 w w0.heap.size (fun _ => True) pv []) (hB : Below w0.heap.size w0 w)
    (h0 : ¬ (s.size = 1 ∧ k ≤ 2)) (hT : takes s 1 (k != 5) = (p, a, 0)) (ha : a ≤ s.size) (h5 : k ≠ 5) (n3 : nxt s a [44] = true) (hU : takes s (a + 1) true = (q, b, er)) (he : er ≠ 0) :
    Calls Tryd.prog 32 #[.pointer (some ⟨g, 0, none⟩), .int .u8 k] w fun e w' => e = .returned (.int .i64 er) ∧ After w0 w w' g s (b : Int) pv [toS p] := by
  replace hs := Aside0.mk hs
  have H1 := Aside0.mk h1s
  have HR := Aside0.mk hR
  have HG := Aside0.mk hG
  have HGE := Aside0.mk hge
  have HB := Aside0.mk hB
  have HK := Aside0.mk (show KeepBut w w g pv.ownBlock from KeepBut.refl w g _)
  have HO := Aside0.mk (show Own w pv pv from .inl rfl)
  have HX := HO
  have H0 := Aside0.mk h0
  have HE : (er != 0) = true := by simpa using he
  have HE2 := Aside0.mk he
  have HA := Aside0.mk ha
  have H5 : (k != 5) = true := by simpa using h5
  have N3 : Aside0 (∀ v, topo_reader_next.f s (a : Int) v ⟨#[44]⟩ = some (true, s, (a : Int))) := ⟨fun v => by have h_ := next_comma s v a; rw [n3] at h_; exact h_⟩
  rw [H5] at hT
  have HT := Aside0.mk hT
  have hal : a < s.size := by unfold nxt at n3; simp only [Bool.and_eq_true, decide_eq_true_eq] at n3; exact n3.1
  have HAL := Aside0.mk hal
  have hs_ := hs.out
  have HWG := Aside0.mk (show wrap64 ((a : Int) + 1) = (a : Int) + 1 by unfold wrap64; omega)
  clear hal hs_
  have HU := Aside0.mk hU
  clear h1s hG hge hR hB h0 hT ha h5 n3 hU he
  have gc0 := (blk_cell HG.out 0).trans (show ((#[Value.string s, .int .i64 1, pv] : Array Value)[0]?) = some (Value.string s) from rfl)
  have gc1 := (blk_cell HG.out 1).trans (show ((#[Value.string s, .int .i64 1, pv] : Array Value)[1]?) = some (Value.int .i64 1) from rfl)
  have gf1 := blk_frozen HG.out 1
  go_enter Tryd.func32, Tryd.ntmps32
  go_upto_region 1 with fail
  go_cut [20] (fun v20 wc => v20 = .bool false ∧ ∃ n, wc = w.drewN n)
  case first =>
    by_cases c : s.size = 1
    · have b1 : ((1 : Int) == (s.size : Int)) = true := by rw [c]; rfl
      have b2 : decide (k ≤ 2) = false := decide_eq_false (fun h => H0.out ⟨c, h⟩)
      clear c
      go_quiet (fail)
      go_wp2
      go_meet
      exact ⟨rfl, _, rfl⟩
    · have b1 : ((1 : Int) == (s.size : Int)) = false := by simp only [beq_eq_false_iff_ne, ne_eq]; omega
      clear c
      go_quiet (fail)
      go_wp2
      go_meet
      exact ⟨rfl, _, rfl⟩
  case rest =>
    obtain ⟨rfl, n, rfl⟩ := hcut
    clear gc0 gc1 gf1
    have HR' := Aside0.mk (Kd.R_drewN HR.out n)
    have HG' := Aside0.mk (blk_drewN HG.out n)
    have HB' := Aside0.mk (pw_below_drewN HB.out n)
    have HK' := Aside0.mk (keep_drewN HK.out n)
    clear HR HG HB HK
    generalize w.drewN n = wx at HR' HG' HB' HK' ⊢
    have HR := HR'
    have HG := HG'
    have HB := HB'
    have HK := HK'
    clear HR' HG' HB' HK'
    have gc0 := (blk_cell HG.out 0).trans (show ((#[Value.string s, .int .i64 1, pv] : Array Value)[0]?) = some (Value.string s) from rfl)
    have gc1 := (blk_cell HG.out 1).trans (show ((#[Value.string s, .int .i64 1, pv] : Array Value)[1]?) = some (Value.int .i64 1) from rfl)
    have gf1 := blk_frozen HG.out 1
    go_wp2_with (first | (go_at_call 41; (with_reducible refine (Go.Proofs.YtmcidodpnhkdfaaDoor.PartWalk.part s 1 true pv [] g w0 _ hs.out H1.out (by simp) HG.out HGE.out HR.out HB.out).mono ?_); rw [HT.out]; rintro e wa ⟨rfl, pv1, hg_, hr_, hb_, hk_, hx_⟩; (try clear gc0 gc1 gf1); replace HX := Aside0.mk (ownThen HX.out HK.out hx_); replace HK := Aside0.mk (keepThen HK.out hk_ HO.out); have hr2_ : Kd.R k72 72 wa w0.heap.size (fun _ => True) pv1 [toS p] := (by first | (rw [if_pos rfl] at hr_; exact hr_) | (rw [if_neg HE2.out] at hr_; exact hr_)); replace HG := Aside0.mk hg_; replace HR := Aside0.mk hr2_; clear hr2_; replace HB := Aside0.mk hb_; replace HO := HX; clear hg_ hr_ hb_ hk_ hx_; have gc0 := (blk_cell HG.out 0).trans (show ((#[Value.string s, .int .i64 (a : Int), pv1] : Array Value)[0]?) = some (Value.string s) from rfl); have gc1 := (blk_cell HG.out 1).trans (show ((#[Value.string s, .int .i64 (a : Int), pv1] : Array Value)[1]?) = some (Value.int .i64 (a : Int)) from rfl); have gf1 := blk_frozen HG.out 1) | (go_at_call 42; (with_reducible refine (topo_reader_next.calls g s (a : Int) pv1 ⟨#[44]⟩ true s (a : Int) w0 _ ?h1 ?h2 (N3.out _)).mono ?_); (case h1 => exact ⟨HG.out, HGE.out⟩); (case h2 => exact HB.out); rintro e wb ⟨rfl, hi_, hb_, hk_⟩; (try clear gc0 gc1 gf1); replace HR := Aside0.mk (rNone (at_ := 0) HR.out HG.out hk_); replace HG := Aside0.mk hi_.1; replace HB := Aside0.mk hb_; replace HK := Aside0.mk (keepNone HK.out hk_); clear hi_ hb_ hk_; have gc0 := (blk_cell HG.out 0).trans (show ((#[Value.string s, .int .i64 (a : Int), pv1] : Array Value)[0]?) = some (Value.string s) from rfl); have gc1 := (blk_cell HG.out 1).trans (show ((#[Value.string s, .int .i64 (a : Int), pv1] : Array Value)[1]?) = some (Value.int .i64 (a : Int)) from rfl); have gf1 := blk_frozen HG.out 1) | ((with_reducible refine gate_store (t := 3) (p := 40) (v := .tmp 38) rfl ?_); refine store_event (w1 := ?wwwc) ?hgwc rfl rfl ?hrwc ?_; (case hgwc => rfl); (case hrwc => go_simp; rfl); intro wc hw; (try clear gc0 gc1 gf1); have hR' : Kd.R k72 72 wc w0.heap.size (fun _ => True) pv1 _ := (by rw [hw]; exact rSet HR.out HG.out); have hG' : wc.heap[g]? = some (.cells #[.string s, .int .i64 ((a : Int) + 1), pv1] 66 (0, 0)) := (by rw [hw, HWG.out]; exact blk_put (cs := #[.string s, .int .i64 (a : Int), pv1]) HG.out 1 (.int .i64 ((a : Int) + 1)) rfl); have hK' : KeepBut w wc g pv.ownBlock := (by rw [hw]; exact KeepBut.set_ HK.out 1 _); have hB' : Below w0.heap.size w0 wc := (by rw [hw]; exact below_set HB.out HGE.out); clear HR HG HK HB hw; have HR := Aside0.mk hR'; have HG := Aside0.mk hG'; have HK := Aside0.mk hK'; have HB := Aside0.mk hB'; clear hR' hG' hK' hB'; have gc0 := (blk_cell HG.out 0).trans (show ((#[Value.string s, .int .i64 ((a : Int) + 1), pv1] : Array Value)[0]?) = some (Value.string s) from rfl); have gc1 := (blk_cell HG.out 1).trans (show ((#[Value.string s, .int .i64 ((a : Int) + 1), pv1] : Array Value)[1]?) = some (Value.int .i64 ((a : Int) + 1)) from rfl); have gf1 := blk_frozen HG.out 1) | (go_at_call 41; (with_reducible refine (Go.Proofs.YtmcidodpnhkdfaaDoor.PartWalk.part s (a + 1) true pv1 [toS p] g w0 _ hs.out (Nat.succ_le_of_lt HAL.out) (by simp) HG.out HGE.out HR.out HB.out).mono ?_); rw [HU.out]; rintro e wd ⟨rfl, pv2, hg_, hr_, hb_, hk_, hx_⟩; (try clear gc0 gc1 gf1); replace HX := Aside0.mk (ownThen HX.out HK.out hx_); replace HK := Aside0.mk (keepThen HK.out hk_ HO.out); have hr2_ : Kd.R k72 72 wd w0.heap.size (fun _ => True) pv2 [toS p] := (by first | (rw [if_pos rfl] at hr_; exact hr_) | (rw [if_neg HE2.out] at hr_; exact hr_)); replace HG := Aside0.mk hg_; replace HR := Aside0.mk hr2_; clear hr2_; replace HB := Aside0.mk hb_; replace HO := HX; clear hg_ hr_ hb_ hk_ hx_; have gc0 := (blk_cell HG.out 0).trans (show ((#[Value.string s, .int .i64 (b : Int), pv2] : Array Value)[0]?) = some (Value.string s) from rfl); have gc1 := (blk_cell HG.out 1).trans (show ((#[Value.string s, .int .i64 (b : Int), pv2] : Array Value)[1]?) = some (Value.int .i64 (b : Int)) from rfl); have gf1 := blk_frozen HG.out 1))
    go_ret
    exact ⟨rfl, pv2, HG.out, HR.out, HB.out, HK.out, HO.out⟩
set_option maxHeartbeats 4000000 in
set_option maxRecDepth 100000 in
theorem f_two0 (s : ByteArray) (k : Int) (p : Pt) (a : Nat) (q : Pt) (b : Nat) (pv : Value) (g : Nat) (w0 w : World) (hs : s.size ≤ 1048576) (h1s : 1 ≤ s.size) (hG : w.heap[g]? = some (.cells #[.string s, .int .i64 1, pv] 66 (0, 0))) (hge : w0.heap.size ≤ g) (hR : Kd.R k72 72 w w0.heap.size (fun _ => True) pv []) (hB : Below w0.heap.size w0 w)
    (h0 : ¬ (s.size = 1 ∧ k ≤ 2)) (hT : takes s 1 (k != 5) = (p, a, 0)) (ha : a ≤ s.size) (h5 : k ≠ 5) (n3 : nxt s a [44] = true) (hU : takes s (a + 1) true = (q, b, 0)) (hm : ¬ b < s.size) :
    Calls Tryd.prog 32 #[.pointer (some ⟨g, 0, none⟩), .int .u8 k] w fun e w' => e = .returned (.int .i64 0) ∧ After w0 w w' g s (b : Int) pv [toS p, toS q] := by
  replace hs := Aside0.mk hs
  have H1 := Aside0.mk h1s
  have HR := Aside0.mk hR
  have HG := Aside0.mk hG
  have HGE := Aside0.mk hge
  have HB := Aside0.mk hB
  have HK := Aside0.mk (show KeepBut w w g pv.ownBlock from KeepBut.refl w g _)
  have HO := Aside0.mk (show Own w pv pv from .inl rfl)
  have HX := HO
  have H0 := Aside0.mk h0
  have HA := Aside0.mk ha
  have H5 : (k != 5) = true := by simpa using h5
  have N3 : Aside0 (∀ v, topo_reader_next.f s (a : Int) v ⟨#[44]⟩ = some (true, s, (a : Int))) := ⟨fun v => by have h_ := next_comma s v a; rw [n3] at h_; exact h_⟩
  rw [H5] at hT
  have HT := Aside0.mk hT
  have hal : a < s.size := by unfold nxt at n3; simp only [Bool.and_eq_true, decide_eq_true_eq] at n3; exact n3.1
  have HAL := Aside0.mk hal
  have hs_ := hs.out
  have HWG := Aside0.mk (show wrap64 ((a : Int) + 1) = (a : Int) + 1 by unfold wrap64; omega)
  clear hal hs_
  have HU := Aside0.mk hU
  have HM : decide ((b : Int) < (s.size : Int)) = false := by first | exact decide_eq_true (by omega) | exact decide_eq_false (by omega)
  have HM2 : decide (b < s.size) = false := by first | exact decide_eq_true (by omega) | exact decide_eq_false (by omega)
  have HM3 : (s.size : Int) ≤ (b : Int) := by omega
  clear hm
  clear h1s hG hge hR hB h0 hT ha h5 n3 hU
  have gc0 := (blk_cell HG.out 0).trans (show ((#[Value.string s, .int .i64 1, pv] : Array Value)[0]?) = some (Value.string s) from rfl)
  have gc1 := (blk_cell HG.out 1).trans (show ((#[Value.string s, .int .i64 1, pv] : Array Value)[1]?) = some (Value.int .i64 1) from rfl)
  have gf1 := blk_frozen HG.out 1
  go_enter Tryd.func32, Tryd.ntmps32
  go_upto_region 1 with fail
  go_cut [20] (fun v20 wc => v20 = .bool false ∧ ∃ n, wc = w.drewN n)
  case first =>
    by_cases c : s.size = 1
    · have b1 : ((1 : Int) == (s.size : Int)) = true := by rw [c]; rfl
      have b2 : decide (k ≤ 2) = false := decide_eq_false (fun h => H0.out ⟨c, h⟩)
      clear c
      go_quiet (fail)
      go_wp2
      go_meet
      exact ⟨rfl, _, rfl⟩
    · have b1 : ((1 : Int) == (s.size : Int)) = false := by simp only [beq_eq_false_iff_ne, ne_eq]; omega
      clear c
      go_quiet (fail)
      go_wp2
      go_meet
      exact ⟨rfl, _, rfl⟩
  case rest =>
    obtain ⟨rfl, n, rfl⟩ := hcut
    clear gc0 gc1 gf1
    have HR' := Aside0.mk (Kd.R_drewN HR.out n)
    have HG' := Aside0.mk (blk_drewN HG.out n)
    have HB' := Aside0.mk (pw_below_drewN HB.out n)
    have HK' := Aside0.mk (keep_drewN HK.out n)
    clear HR HG HB HK
    generalize w.drewN n = wx at HR' HG' HB' HK' ⊢
    have HR := HR'
    have HG := HG'
    have HB := HB'
    have HK := HK'
    clear HR' HG' HB' HK'
    have gc0 := (blk_cell HG.out 0).trans (show ((#[Value.string s, .int .i64 1, pv] : Array Value)[0]?) = some (Value.string s) from rfl)
    have gc1 := (blk_cell HG.out 1).trans (show ((#[Value.string s, .int .i64 1, pv] : Array Value)[1]?) = some (Value.int .i64 1) from rfl)
    have gf1 := blk_frozen HG.out 1
    go_upto_region 11 with (first | (go_at_call 41; (with_reducible refine (Go.Proofs.YtmcidodpnhkdfaaDoor.PartWalk.part s 1 true pv [] g w0 _ hs.out H1.out (by simp) HG.out HGE.out HR.out HB.out).mono ?_); rw [HT.out]; rintro e wa ⟨rfl, pv1, hg_, hr_, hb_, hk_, hx_⟩; (try clear gc0 gc1 gf1); replace HX := Aside0.mk (ownThen HX.out HK.out hx_); replace HK := Aside0.mk (keepThen HK.out hk_ HO.out); have hr2_ : Kd.R k72 72 wa w0.heap.size (fun _ => True) pv1 [toS p] := (by first | (rw [if_pos rfl] at hr_; exact hr_) | (rw [if_neg HE2.out] at hr_; exact hr_)); replace HG := Aside0.mk hg_; replace HR := Aside0.mk hr2_; clear hr2_; replace HB := Aside0.mk hb_; replace HO := HX; clear hg_ hr_ hb_ hk_ hx_; have gc0 := (blk_cell HG.out 0).trans (show ((#[Value.string s, .int .i64 (a : Int), pv1] : Array Value)[0]?) = some (Value.string s) from rfl); have gc1 := (blk_cell HG.out 1).trans (show ((#[Value.string s, .int .i64 (a : Int), pv1] : Array Value)[1]?) = some (Value.int .i64 (a : Int)) from rfl); have gf1 := blk_frozen HG.out 1) | (go_at_call 42; (with_reducible refine (topo_reader_next.calls g s (a : Int) pv1 ⟨#[44]⟩ true s (a : Int) w0 _ ?h1 ?h2 (N3.out _)).mono ?_); (case h1 => exact ⟨HG.out, HGE.out⟩); (case h2 => exact HB.out); rintro e wb ⟨rfl, hi_, hb_, hk_⟩; (try clear gc0 gc1 gf1); replace HR := Aside0.mk (rNone (at_ := 0) HR.out HG.out hk_); replace HG := Aside0.mk hi_.1; replace HB := Aside0.mk hb_; replace HK := Aside0.mk (keepNone HK.out hk_); clear hi_ hb_ hk_; have gc0 := (blk_cell HG.out 0).trans (show ((#[Value.string s, .int .i64 (a : Int), pv1] : Array Value)[0]?) = some (Value.string s) from rfl); have gc1 := (blk_cell HG.out 1).trans (show ((#[Value.string s, .int .i64 (a : Int), pv1] : Array Value)[1]?) = some (Value.int .i64 (a : Int)) from rfl); have gf1 := blk_frozen HG.out 1) | ((with_reducible refine gate_store (t := 3) (p := 40) (v := .tmp 38) rfl ?_); refine store_event (w1 := ?wwwc) ?hgwc rfl rfl ?hrwc ?_; (case hgwc => rfl); (case hrwc => go_simp; rfl); intro wc hw; (try clear gc0 gc1 gf1); have hR' : Kd.R k72 72 wc w0.heap.size (fun _ => True) pv1 _ := (by rw [hw]; exact rSet HR.out HG.out); have hG' : wc.heap[g]? = some (.cells #[.string s, .int .i64 ((a : Int) + 1), pv1] 66 (0, 0)) := (by rw [hw, HWG.out]; exact blk_put (cs := #[.string s, .int .i64 (a : Int), pv1]) HG.out 1 (.int .i64 ((a : Int) + 1)) rfl); have hK' : KeepBut w wc g pv.ownBlock := (by rw [hw]; exact KeepBut.set_ HK.out 1 _); have hB' : Below w0.heap.size w0 wc := (by rw [hw]; exact below_set HB.out HGE.out); clear HR HG HK HB hw; have HR := Aside0.mk hR'; have HG := Aside0.mk hG'; have HK := Aside0.mk hK'; have HB := Aside0.mk hB'; clear hR' hG' hK' hB'; have gc0 := (blk_cell HG.out 0).trans (show ((#[Value.string s, .int .i64 ((a : Int) + 1), pv1] : Array Value)[0]?) = some (Value.string s) from rfl); have gc1 := (blk_cell HG.out 1).trans (show ((#[Value.string s, .int .i64 ((a : Int) + 1), pv1] : Array Value)[1]?) = some (Value.int .i64 ((a : Int) + 1)) from rfl); have gf1 := blk_frozen HG.out 1) | (go_at_call 41; (with_reducible refine (Go.Proofs.YtmcidodpnhkdfaaDoor.PartWalk.part s (a + 1) true pv1 [toS p] g w0 _ hs.out (Nat.succ_le_of_lt HAL.out) (by simp) HG.out HGE.out HR.out HB.out).mono ?_); rw [HU.out]; rintro e wd ⟨rfl, pv2, hg_, hr_, hb_, hk_, hx_⟩; (try clear gc0 gc1 gf1); replace HX := Aside0.mk (ownThen HX.out HK.out hx_); replace HK := Aside0.mk (keepThen HK.out hk_ HO.out); have hr2_ : Kd.R k72 72 wd w0.heap.size (fun _ => True) pv2 [toS p, toS q] := (by first | (rw [if_pos rfl] at hr_; exact hr_) | (rw [if_neg HE2.out] at hr_; exact hr_)); replace HG := Aside0.mk hg_; replace HR := Aside0.mk hr2_; clear hr2_; replace HB := Aside0.mk hb_; replace HO := HX; clear hg_ hr_ hb_ hk_ hx_; have gc0 := (blk_cell HG.out 0).trans (show ((#[Value.string s, .int .i64 (b : Int), pv2] : Array Value)[0]?) = some (Value.string s) from rfl); have gc1 := (blk_cell HG.out 1).trans (show ((#[Value.string s, .int .i64 (b : Int), pv2] : Array Value)[1]?) = some (Value.int .i64 (b : Int)) from rfl); have gf1 := blk_frozen HG.out 1))
    go_quiet (fail)
    go_wp2
    go_ret
    have HR' := Aside0.mk (Kd.R_drewN HR.out nq)
    have HG' := Aside0.mk (blk_drewN HG.out nq)
    have HB' := Aside0.mk (pw_below_drewN HB.out nq)
    have HK' := Aside0.mk (keep_drewN HK.out nq)
    exact ⟨rfl, pv2, HG'.out, HR'.out, HB'.out, HK'.out, HO.out⟩
set_option maxHeartbeats 4000000 in
set_option maxRecDepth 100000 in
theorem f_two1 (s : ByteArray) (k : Int) (p : Pt) (a : Nat) (q : Pt) (b : Nat) (pv : Value) (g : Nat) (w0 w : World) (hs : s.size ≤ 1048576) (h1s : 1 ≤ s.size) (hG : w.heap[g]? = some (.cells #[.string s, .int .i64 1, pv] 66 (0, 0))) (hge : w0.heap.size ≤ g) (hR : Kd.R k72 72 w w0.heap.size (fun _ => True) pv []) (hB : Below w0.heap.size w0 w)
    (h0 : ¬ (s.size = 1 ∧ k ≤ 2)) (hT : takes s 1 (k != 5) = (p, a, 0)) (ha : a ≤ s.size) (h5 : k ≠ 5) (n3 : nxt s a [44] = true) (hU : takes s (a + 1) true = (q, b, 0)) (hm : b < s.size) :
    Calls Tryd.prog 32 #[.pointer (some ⟨g, 0, none⟩), .int .u8 k] w fun e w' => e = .returned (.int .i64 45) ∧ After w0 w w' g s (b : Int) pv [toS p, toS q] := by
  replace hs := Aside0.mk hs
  have H1 := Aside0.mk h1s
  have HR := Aside0.mk hR
  have HG := Aside0.mk hG
  have HGE := Aside0.mk hge
  have HB := Aside0.mk hB
  have HK := Aside0.mk (show KeepBut w w g pv.ownBlock from KeepBut.refl w g _)
  have HO := Aside0.mk (show Own w pv pv from .inl rfl)
  have HX := HO
  have H0 := Aside0.mk h0
  have HA := Aside0.mk ha
  have H5 : (k != 5) = true := by simpa using h5
  have N3 : Aside0 (∀ v, topo_reader_next.f s (a : Int) v ⟨#[44]⟩ = some (true, s, (a : Int))) := ⟨fun v => by have h_ := next_comma s v a; rw [n3] at h_; exact h_⟩
  rw [H5] at hT
  have HT := Aside0.mk hT
  have hal : a < s.size := by unfold nxt at n3; simp only [Bool.and_eq_true, decide_eq_true_eq] at n3; exact n3.1
  have HAL := Aside0.mk hal
  have hs_ := hs.out
  have HWG := Aside0.mk (show wrap64 ((a : Int) + 1) = (a : Int) + 1 by unfold wrap64; omega)
  clear hal hs_
  have HU := Aside0.mk hU
  have HM : decide ((b : Int) < (s.size : Int)) = true := by first | exact decide_eq_true (by omega) | exact decide_eq_false (by omega)
  have HM2 : decide (b < s.size) = true := by first | exact decide_eq_true (by omega) | exact decide_eq_false (by omega)
  have HM3 : (b : Int) < (s.size : Int) := by omega
  clear hm
  clear h1s hG hge hR hB h0 hT ha h5 n3 hU
  have gc0 := (blk_cell HG.out 0).trans (show ((#[Value.string s, .int .i64 1, pv] : Array Value)[0]?) = some (Value.string s) from rfl)
  have gc1 := (blk_cell HG.out 1).trans (show ((#[Value.string s, .int .i64 1, pv] : Array Value)[1]?) = some (Value.int .i64 1) from rfl)
  have gf1 := blk_frozen HG.out 1
  go_enter Tryd.func32, Tryd.ntmps32
  go_upto_region 1 with fail
  go_cut [20] (fun v20 wc => v20 = .bool false ∧ ∃ n, wc = w.drewN n)
  case first =>
    by_cases c : s.size = 1
    · have b1 : ((1 : Int) == (s.size : Int)) = true := by rw [c]; rfl
      have b2 : decide (k ≤ 2) = false := decide_eq_false (fun h => H0.out ⟨c, h⟩)
      clear c
      go_quiet (fail)
      go_wp2
      go_meet
      exact ⟨rfl, _, rfl⟩
    · have b1 : ((1 : Int) == (s.size : Int)) = false := by simp only [beq_eq_false_iff_ne, ne_eq]; omega
      clear c
      go_quiet (fail)
      go_wp2
      go_meet
      exact ⟨rfl, _, rfl⟩
  case rest =>
    obtain ⟨rfl, n, rfl⟩ := hcut
    clear gc0 gc1 gf1
    have HR' := Aside0.mk (Kd.R_drewN HR.out n)
    have HG' := Aside0.mk (blk_drewN HG.out n)
    have HB' := Aside0.mk (pw_below_drewN HB.out n)
    have HK' := Aside0.mk (keep_drewN HK.out n)
    clear HR HG HB HK
    generalize w.drewN n = wx at HR' HG' HB' HK' ⊢
    have HR := HR'
    have HG := HG'
    have HB := HB'
    have HK := HK'
    clear HR' HG' HB' HK'
    have gc0 := (blk_cell HG.out 0).trans (show ((#[Value.string s, .int .i64 1, pv] : Array Value)[0]?) = some (Value.string s) from rfl)
    have gc1 := (blk_cell HG.out 1).trans (show ((#[Value.string s, .int .i64 1, pv] : Array Value)[1]?) = some (Value.int .i64 1) from rfl)
    have gf1 := blk_frozen HG.out 1
    go_upto_region 11 with (first | (go_at_call 41; (with_reducible refine (Go.Proofs.YtmcidodpnhkdfaaDoor.PartWalk.part s 1 true pv [] g w0 _ hs.out H1.out (by simp) HG.out HGE.out HR.out HB.out).mono ?_); rw [HT.out]; rintro e wa ⟨rfl, pv1, hg_, hr_, hb_, hk_, hx_⟩; (try clear gc0 gc1 gf1); replace HX := Aside0.mk (ownThen HX.out HK.out hx_); replace HK := Aside0.mk (keepThen HK.out hk_ HO.out); have hr2_ : Kd.R k72 72 wa w0.heap.size (fun _ => True) pv1 [toS p] := (by first | (rw [if_pos rfl] at hr_; exact hr_) | (rw [if_neg HE2.out] at hr_; exact hr_)); replace HG := Aside0.mk hg_; replace HR := Aside0.mk hr2_; clear hr2_; replace HB := Aside0.mk hb_; replace HO := HX; clear hg_ hr_ hb_ hk_ hx_; have gc0 := (blk_cell HG.out 0).trans (show ((#[Value.string s, .int .i64 (a : Int), pv1] : Array Value)[0]?) = some (Value.string s) from rfl); have gc1 := (blk_cell HG.out 1).trans (show ((#[Value.string s, .int .i64 (a : Int), pv1] : Array Value)[1]?) = some (Value.int .i64 (a : Int)) from rfl); have gf1 := blk_frozen HG.out 1) | (go_at_call 42; (with_reducible refine (topo_reader_next.calls g s (a : Int) pv1 ⟨#[44]⟩ true s (a : Int) w0 _ ?h1 ?h2 (N3.out _)).mono ?_); (case h1 => exact ⟨HG.out, HGE.out⟩); (case h2 => exact HB.out); rintro e wb ⟨rfl, hi_, hb_, hk_⟩; (try clear gc0 gc1 gf1); replace HR := Aside0.mk (rNone (at_ := 0) HR.out HG.out hk_); replace HG := Aside0.mk hi_.1; replace HB := Aside0.mk hb_; replace HK := Aside0.mk (keepNone HK.out hk_); clear hi_ hb_ hk_; have gc0 := (blk_cell HG.out 0).trans (show ((#[Value.string s, .int .i64 (a : Int), pv1] : Array Value)[0]?) = some (Value.string s) from rfl); have gc1 := (blk_cell HG.out 1).trans (show ((#[Value.string s, .int .i64 (a : Int), pv1] : Array Value)[1]?) = some (Value.int .i64 (a : Int)) from rfl); have gf1 := blk_frozen HG.out 1) | ((with_reducible refine gate_store (t := 3) (p := 40) (v := .tmp 38) rfl ?_); refine store_event (w1 := ?wwwc) ?hgwc rfl rfl ?hrwc ?_; (case hgwc => rfl); (case hrwc => go_simp; rfl); intro wc hw; (try clear gc0 gc1 gf1); have hR' : Kd.R k72 72 wc w0.heap.size (fun _ => True) pv1 _ := (by rw [hw]; exact rSet HR.out HG.out); have hG' : wc.heap[g]? = some (.cells #[.string s, .int .i64 ((a : Int) + 1), pv1] 66 (0, 0)) := (by rw [hw, HWG.out]; exact blk_put (cs := #[.string s, .int .i64 (a : Int), pv1]) HG.out 1 (.int .i64 ((a : Int) + 1)) rfl); have hK' : KeepBut w wc g pv.ownBlock := (by rw [hw]; exact KeepBut.set_ HK.out 1 _); have hB' : Below w0.heap.size w0 wc := (by rw [hw]; exact below_set HB.out HGE.out); clear HR HG HK HB hw; have HR := Aside0.mk hR'; have HG := Aside0.mk hG'; have HK := Aside0.mk hK'; have HB := Aside0.mk hB'; clear hR' hG' hK' hB'; have gc0 := (blk_cell HG.out 0).trans (show ((#[Value.string s, .int .i64 ((a : Int) + 1), pv1] : Array Value)[0]?) = some (Value.string s) from rfl); have gc1 := (blk_cell HG.out 1).trans (show ((#[Value.string s, .int .i64 ((a : Int) + 1), pv1] : Array Value)[1]?) = some (Value.int .i64 ((a : Int) + 1)) from rfl); have gf1 := blk_frozen HG.out 1) | (go_at_call 41; (with_reducible refine (Go.Proofs.YtmcidodpnhkdfaaDoor.PartWalk.part s (a + 1) true pv1 [toS p] g w0 _ hs.out (Nat.succ_le_of_lt HAL.out) (by simp) HG.out HGE.out HR.out HB.out).mono ?_); rw [HU.out]; rintro e wd ⟨rfl, pv2, hg_, hr_, hb_, hk_, hx_⟩; (try clear gc0 gc1 gf1); replace HX := Aside0.mk (ownThen HX.out HK.out hx_); replace HK := Aside0.mk (keepThen HK.out hk_ HO.out); have hr2_ : Kd.R k72 72 wd w0.heap.size (fun _ => True) pv2 [toS p, toS q] := (by first | (rw [if_pos rfl] at hr_; exact hr_) | (rw [if_neg HE2.out] at hr_; exact hr_)); replace HG := Aside0.mk hg_; replace HR := Aside0.mk hr2_; clear hr2_; replace HB := Aside0.mk hb_; replace HO := HX; clear hg_ hr_ hb_ hk_ hx_; have gc0 := (blk_cell HG.out 0).trans (show ((#[Value.string s, .int .i64 (b : Int), pv2] : Array Value)[0]?) = some (Value.string s) from rfl); have gc1 := (blk_cell HG.out 1).trans (show ((#[Value.string s, .int .i64 (b : Int), pv2] : Array Value)[1]?) = some (Value.int .i64 (b : Int)) from rfl); have gf1 := blk_frozen HG.out 1))
    go_quiet (fail)
    go_wp2
    go_ret
    have HR' := Aside0.mk (Kd.R_drewN HR.out nq)
    have HG' := Aside0.mk (blk_drewN HG.out nq)
    have HB' := Aside0.mk (pw_below_drewN HB.out nq)
    have HK' := Aside0.mk (keep_drewN HK.out nq)
    exact ⟨rfl, pv2, HG'.out, HR'.out, HB'.out, HK'.out, HO.out⟩
end Go.Proofs.YtmcidodpnhkdfaaDoor.FormWalk
