/- reader.form: what it answers and leaves, as `form` says. -/
import Derived.Test.YtmcidodpnhkdfaaDoorFormWalk
namespace Go.Proofs.YtmcidodpnhkdfaaDoor.FormWalk
open Go.RowKit Go.Proofs.YtmcidodpnhkdfaaDoorW.PrintWords Go.Proofs.YtmcidodpnhkdfaaDoor.ParseSpec Go.Proofs.YtmcidodpnhkdfaaDoor.PQ Go.Proofs.YtmcidodpnhkdfaaDoor.PartWalk
set_option linter.unusedVariables false
theorem behind_le {s : ByteArray} {i : Nat} {tail : Bool} (h : i ≤ s.size) : behind s i tail ≤ s.size := by
  unfold behind
  split
  · rename_i c
    unfold nxt at c
    simp only [Bool.and_eq_true, decide_eq_true_eq] at c
    omega
  · exact h
theorem takes_le (s : ByteArray) (i : Nat) (tail : Bool) (h : i ≤ s.size) : (takes s i tail).2.1 ≤ s.size := by
  have h1 := dg_le h
  have h2 := behind_le (tail := tail) h1
  unfold takes
  simp only
  split
  · exact h
  · split
    · rename_i c
      unfold nxt at c
      simp only [Bool.and_eq_true, decide_eq_true_eq] at c
      have h3 := dg_le (show behind s (dg s i) tail + 1 ≤ s.size by omega)
      split <;> simp <;> omega
    · exact h2
theorem form_walk (s : ByteArray) (k : Int) (pv : Value) (g : Nat) (w0 w : World) (hs : s.size ≤ 1048576) (h1s : 1 ≤ s.size) (hG : w.heap[g]? = some (.cells #[.string s, .int .i64 1, pv] 66 (0, 0))) (hge : w0.heap.size ≤ g) (hR : Kd.R k72 72 w w0.heap.size (fun _ => True) pv []) (hB : Below w0.heap.size w0 w) :
    Calls Tryd.prog 32 #[.pointer (some ⟨g, 0, none⟩), .int .u8 k] w fun e w' => e = .returned (.int .i64 (form s k).2.2) ∧ After w0 w w' g s (form s k).2.1 pv ((form s k).1.map toS) := by
  by_cases h0 : s.size = 1 ∧ k ≤ 2
  · have hf : form s k = ([], 1, 0) := by unfold form; rw [if_pos h0]
    rw [hf]
    exact f_none s k pv g w0 w hs h1s hG hge hR hB h0
  · have hta := takes_le s 1 (k != 5) h1s
    generalize hT : takes s 1 (k != 5) = T at hta
    obtain ⟨p, a, e⟩ := T
    simp only at hta
    by_cases he : e = 0
    · subst he
      by_cases h5 : k = 5
      · have hb : (k != 5 && nxt s a [44]) = false := by simp [h5]
        by_cases hm : a < s.size
        · have hf : form s k = ([p], a, 45) := by unfold form; rw [if_neg h0, hT]; simp [hb, hm]
          rw [hf]
          exact f_oneS1 s k p a pv g w0 w hs h1s hG hge hR hB h0 hT hta h5 hm
        · have hf : form s k = ([p], a, 0) := by unfold form; rw [if_neg h0, hT]; simp [hb, hm]
          rw [hf]
          exact f_oneS0 s k p a pv g w0 w hs h1s hG hge hR hB h0 hT hta h5 hm
      · have hk : (k != 5) = true := by simpa using h5
        cases n3 : nxt s a [44] with
        | false =>
          by_cases hm : a < s.size
          · have hf : form s k = ([p], a, 45) := by unfold form; rw [if_neg h0, hT]; simp [n3, hm]
            rw [hf]
            exact f_one1 s k p a pv g w0 w hs h1s hG hge hR hB h0 hT hta h5 n3 hm
          · have hf : form s k = ([p], a, 0) := by unfold form; rw [if_neg h0, hT]; simp [n3, hm]
            rw [hf]
            exact f_one0 s k p a pv g w0 w hs h1s hG hge hR hB h0 hT hta h5 n3 hm
        | true =>
          generalize hU : takes s (a + 1) true = U
          obtain ⟨q, b, f⟩ := U
          by_cases hf0 : f = 0
          · subst hf0
            by_cases hm : b < s.size
            · have hf : form s k = ([p, q], b, 45) := by unfold form; rw [if_neg h0, hT]; simp [hk, n3, hU, hm]
              rw [hf]
              exact f_two1 s k p a q b pv g w0 w hs h1s hG hge hR hB h0 hT hta h5 n3 hU hm
            · have hf : form s k = ([p, q], b, 0) := by unfold form; rw [if_neg h0, hT]; simp [hk, n3, hU, hm]
              rw [hf]
              exact f_two0 s k p a q b pv g w0 w hs h1s hG hge hR hB h0 hT hta h5 n3 hU hm
          · have hf : form s k = ([p], b, f) := by unfold form; rw [if_neg h0, hT]; simp [hk, n3, hU, hf0]
            rw [hf]
            exact f_twobad s k p a q b f pv g w0 w hs h1s hG hge hR hB h0 hT hta h5 n3 hU hf0
    · have hf : form s k = ([], a, e) := by unfold form; rw [if_neg h0, hT]; simp [he]
      rw [hf]
      exact f_bad s k p a e pv g w0 w hs h1s hG hge hR hB h0 hT he
end Go.Proofs.YtmcidodpnhkdfaaDoor.FormWalk
