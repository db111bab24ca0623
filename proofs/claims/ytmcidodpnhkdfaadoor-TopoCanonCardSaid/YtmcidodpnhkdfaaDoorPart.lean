/- reader.part: what it answers and leaves, as `takes` says. -/
import Derived.Test.YtmcidodpnhkdfaaDoorPartWalk
namespace Go.Proofs.YtmcidodpnhkdfaaDoor.PartWalk
open Go.RowKit Go.Proofs.YtmcidodpnhkdfaaDoorW.PrintWords Go.Proofs.YtmcidodpnhkdfaaDoor.ParseSpec Go.Proofs.YtmcidodpnhkdfaaDoor.PQ
set_option linter.unusedVariables false
theorem part (s : ByteArray) (i : Nat) (tail : Bool) (pv : Value) (ps : List S72) (g : Nat) (w0 w : World) (hs : s.size ≤ 1048576) (hi : i ≤ s.size) (hl : ps.length ≤ 2) (hG : w.heap[g]? = some (.cells #[.string s, .int .i64 (i : Int), pv] 66 (0, 0))) (hge : w0.heap.size ≤ g) (hR : Kd.R k72 72 w w0.heap.size (fun _ => True) pv ps) (hB : Below w0.heap.size w0 w) :
    Calls Tryd.prog 41 #[.pointer (some ⟨g, 0, none⟩), .bool tail] w fun e w' => e = .returned (.int .i64 (takes s i tail).2.2) ∧ After w0 w w' g s (takes s i tail).2.1 pv (if (takes s i tail).2.2 = 0 then ps ++ [toS (takes s i tail).1] else ps) := by
  by_cases n1 : dg s i = i
  · have ht : takes s i tail = (⟨i, i, -1, -1, 0, 0⟩, i, 41) := by unfold takes; rw [if_pos n1]
    rw [ht]
    cases tail with
    | true => exact bad s i pv ps g w0 w hs hi hl hG hge hR hB n1
    | false => exact badF s i pv ps g w0 w hs hi hl hG hge hR hB n1
  · cases tail with
    | false =>
      have ht : takes s i false = (⟨i, dg s i, -1, -1, 0, 0⟩, dg s i, 0) := by
        unfold takes behind starAt; simp [n1]
      rw [ht]
      exact plain s i pv ps g w0 w hs hi hl hG hge hR hB n1
    | true =>
      cases n2 : nxt s (dg s i) [42] with
      | false =>
        cases n3 : nxt s (dg s i) [43, 45] with
        | false =>
          have ht : takes s i true = (⟨i, dg s i, -1, -1, 0, 0⟩, dg s i, 0) := by
            unfold takes behind starAt; simp [n1, n2, n3]
          rw [ht]
          exact t00 s i pv ps g w0 w hs hi hl hG hge hR hB n1 n2 n3
        | true =>
          by_cases n5 : dg s (dg s i + 1) = dg s i + 1
          · have ht : takes s i true = (⟨i, dg s i, -1, dg s i, dg s i + 1, dg s i + 1⟩, dg s i + 1, 43) := by
              unfold takes behind starAt; simp [n1, n2, n3, n5]
            rw [ht]
            exact f01 s i pv ps g w0 w hs hi hl hG hge hR hB n1 n2 n3 n5
          · have ht : takes s i true = (⟨i, dg s i, -1, dg s i, dg s i + 1, dg s (dg s i + 1)⟩, dg s (dg s i + 1), 0) := by
              unfold takes behind starAt; simp [n1, n2, n3, n5]
            rw [ht]
            exact t01 s i _ pv ps g w0 w hs hi hl hG hge hR hB n1 n2 n3 rfl n5
      | true =>
        cases n3 : nxt s (dg s i + 1) [43, 45] with
        | false =>
          have ht : takes s i true = (⟨i, dg s i, dg s i, -1, 0, 0⟩, dg s i + 1, 0) := by
            unfold takes behind starAt; simp [n1, n2, n3]
          rw [ht]
          exact t10 s i pv ps g w0 w hs hi hl hG hge hR hB n1 n2 n3
        | true =>
          by_cases n5 : dg s (dg s i + 1 + 1) = dg s i + 1 + 1
          · have ht : takes s i true = (⟨i, dg s i, dg s i, (dg s i + 1 : Nat), dg s i + 1 + 1, dg s i + 1 + 1⟩, dg s i + 1 + 1, 43) := by
              unfold takes behind starAt; simp [n1, n2, n3, n5]
            rw [ht]
            exact f11 s i pv ps g w0 w hs hi hl hG hge hR hB n1 n2 n3 n5
          · have ht : takes s i true = (⟨i, dg s i, dg s i, (dg s i + 1 : Nat), dg s i + 1 + 1, dg s (dg s i + 1 + 1)⟩, dg s (dg s i + 1 + 1), 0) := by
              unfold takes behind starAt; simp [n1, n2, n3, n5]
            rw [ht]
            exact t11 s i _ pv ps g w0 w hs hi hl hG hge hR hB n1 n2 n3 rfl n5
end Go.Proofs.YtmcidodpnhkdfaaDoor.PartWalk
