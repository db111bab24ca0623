/- The reference's takes, in the print's form. -/
import Derived.Test.YtmcidodpnhkdfaaTakesWalk
namespace Go.Proofs.Ytmcidodpnhkdfaa.PF
open Go.RowKit Go.Proofs.YtmcidodpnhkdfaaW.PrintWords Go.Proofs.YtmcidodpnhkdfaaW.PrintLast Go.Proofs.YtmcidodpnhkdfaaW.PrintMore Go.Proofs.Ytmcidodpnhkdfaa.ParseSpec
set_option linter.unusedVariables false
def vivariumref04_takes.f (k : Nat) (a0 : ByteArray) (a1 : Int) (a2 : Bool) : Option (Int × Int × Int × Int × Int × Int × Int × Int) :=
  if 0 ≤ a1 ∧ a1 ≤ a0.size ∧ a0.size ≤ 1048576 then
    some ((takes a0 a1.toNat a2).1.at_, (takes a0 a1.toNat a2).1.en, (takes a0 a1.toNat a2).1.star, (takes a0 a1.toNat a2).1.sign, (takes a0 a1.toNat a2).1.fr, (takes a0 a1.toNat a2).1.to_, (takes a0 a1.toNat a2).2.1, (takes a0 a1.toNat a2).2.2)
  else none
theorem vivariumref04_takes.mono : ∀ a0 a1 a2 k, LeO (vivariumref04_takes.f k a0 a1 a2) (vivariumref04_takes.f (k + 1) a0 a1 a2) := fun _ _ _ _ => LeO.refl _
theorem nxt_of {s : ByteArray} {i : Nat} {l : List Int} (h : nxt s i l = true) : i < s.size ∧ bt s (i : Int) ∈ l := by
  unfold nxt at h
  simp only [Bool.and_eq_true, decide_eq_true_eq, List.contains_iff_mem] at h
  exact h
theorem nxt_not {s : ByteArray} {i : Nat} {l : List Int} (h : nxt s i l = false) : ¬ (i < s.size ∧ bt s (i : Int) ∈ l) := by
  intro hc
  unfold nxt at h
  rw [decide_eq_true hc.1, Bool.true_and] at h
  have := List.contains_iff_mem.mpr hc.2
  rw [this] at h
  cases h
theorem vivariumref04_takes.calls (k : Nat) (a0 : ByteArray) (a1 : Int) (a2 : Bool) (r1 : Int) (r2 : Int) (r3 : Int) (r4 : Int) (r5 : Int) (r6 : Int) (r7 : Int) (r8 : Int) (w : World) (h : vivariumref04_takes.f k a0 a1 a2 = some (r1, r2, r3, r4, r5, r6, r7, r8)) :
    Calls Try.prog 38 #[.string a0, .int .i64 a1, .bool a2] w fun e w' => e = .returned (.tuple #[.agg #[.int .i64 r1, .int .i64 r2, .int .i64 r3, .int .i64 r4, .int .i64 r5, .int .i64 r6], .int .i64 r7, .int .i64 r8]) ∧ Below w.heap.size w w' := by
  unfold vivariumref04_takes.f at h
  split at h
  · rename_i hc
    obtain ⟨h0, h1, hs⟩ := hc
    obtain ⟨i, rfl⟩ := Int.eq_ofNat_of_zero_le h0
    simp only [Int.toNat_natCast, Option.some.injEq, Prod.mk.injEq] at h
    obtain ⟨rfl, rfl, rfl, rfl, rfl, rfl, rfl, rfl⟩ := h
    have hi : i ≤ a0.size := by omega
    generalize a0 = s at *
    by_cases n1 : dg s i = i
    · have ht : takes s i a2 = (⟨i, i, -1, -1, 0, 0⟩, i, 41) := by unfold takes; rw [if_pos n1]
      rw [ht]
      cases a2 with
      | true => exact tk_bad s i hs hi n1 w
      | false => exact tk_badF s i hs hi n1 w
    · cases a2 with
      | false =>
        have ht : takes s i false = (⟨i, dg s i, -1, -1, 0, 0⟩, dg s i, 0) := by
          unfold takes behind starAt; simp [n1]
        rw [ht]
        exact tk_plain s i _ hs hi rfl n1 w
      | true =>
        cases n2 : nxt s (dg s i) [42] with
        | false =>
          have m2 := nxt_not n2
          simp only [List.mem_cons, List.not_mem_nil, or_false] at m2
          cases n3 : nxt s (dg s i) [43, 45] with
          | false =>
            have m3 := nxt_not n3
            simp only [List.mem_cons, List.not_mem_nil, or_false] at m3
            have ht : takes s i true = (⟨i, dg s i, -1, -1, 0, 0⟩, dg s i, 0) := by
              unfold takes behind starAt; simp [n1, n2, n3]
            rw [ht]
            exact tk_t00 s i _ hs hi rfl n1 m2 m3 w
          | true =>
            obtain ⟨l3, m3⟩ := nxt_of n3
            simp only [List.mem_cons, List.not_mem_nil, or_false] at m3
            by_cases n5 : dg s (dg s i + 1) = dg s i + 1
            · have ht : takes s i true = (⟨i, dg s i, -1, dg s i, dg s i + 1, dg s i + 1⟩, dg s i + 1, 43) := by
                unfold takes behind starAt; simp [n1, n2, n3, n5]
              rw [ht]
              rcases m3 with m3 | m3
              · exact tk_f0p s i _ hs hi rfl n1 m2 l3 m3 n5 w
              · exact tk_f0m s i _ hs hi rfl n1 m2 l3 m3 n5 w
            · have ht : takes s i true = (⟨i, dg s i, -1, dg s i, dg s i + 1, dg s (dg s i + 1)⟩, dg s (dg s i + 1), 0) := by
                unfold takes behind starAt; simp [n1, n2, n3, n5]
              rw [ht]
              rcases m3 with m3 | m3
              · exact tk_t0p s i _ hs hi rfl n1 m2 l3 m3 _ rfl n5 w
              · exact tk_t0m s i _ hs hi rfl n1 m2 l3 m3 _ rfl n5 w
        | true =>
          obtain ⟨l2, m2⟩ := nxt_of n2
          simp only [List.mem_cons, List.not_mem_nil, or_false] at m2
          cases n3 : nxt s (dg s i + 1) [43, 45] with
          | false =>
            have m3 := nxt_not n3
            simp only [List.mem_cons, List.not_mem_nil, or_false] at m3
            have ht : takes s i true = (⟨i, dg s i, dg s i, -1, 0, 0⟩, dg s i + 1, 0) := by
              unfold takes behind starAt; simp [n1, n2, n3]
            rw [ht]
            exact tk_t10 s i _ hs hi rfl n1 l2 m2 m3 w
          | true =>
            obtain ⟨l3, m3⟩ := nxt_of n3
            simp only [List.mem_cons, List.not_mem_nil, or_false] at m3
            by_cases n5 : dg s (dg s i + 1 + 1) = dg s i + 1 + 1
            · have ht : takes s i true = (⟨i, dg s i, dg s i, (dg s i + 1 : Nat), dg s i + 1 + 1, dg s i + 1 + 1⟩, dg s i + 1 + 1, 43) := by
                unfold takes behind starAt; simp [n1, n2, n3, n5]
              rw [ht]
              rcases m3 with m3 | m3
              · exact tk_f1p s i _ hs hi rfl n1 l2 m2 l3 m3 n5 w
              · exact tk_f1m s i _ hs hi rfl n1 l2 m2 l3 m3 n5 w
            · have ht : takes s i true = (⟨i, dg s i, dg s i, (dg s i + 1 : Nat), dg s i + 1 + 1, dg s (dg s i + 1 + 1)⟩, dg s (dg s i + 1 + 1), 0) := by
                unfold takes behind starAt; simp [n1, n2, n3, n5]
              rw [ht]
              rcases m3 with m3 | m3
              · exact tk_t1p s i _ hs hi rfl n1 l2 m2 l3 m3 _ rfl n5 w
              · exact tk_t1m s i _ hs hi rfl n1 l2 m2 l3 m3 _ rfl n5 w
  · cases h
end Go.Proofs.Ytmcidodpnhkdfaa.PF
