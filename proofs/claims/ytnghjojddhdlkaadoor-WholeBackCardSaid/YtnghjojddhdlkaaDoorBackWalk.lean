/- The machine side of WholeBack, and what a text can read as. -/
import Derived.Test.YtnghjojddhdlkaaDoorBackPlain
namespace Go.Proofs.YtnghjojddhdlkaaDoor.BackWalk
open Go.RowKit Go.Proofs.YtnghjojddhdlkaaDoorW.PrintWords Go.Proofs.YtnghjojddhdlkaaDoor.Alive Go.Proofs.YtnghjojddhdlkaaDoor.TextPlain Go.Proofs.YtnghjojddhdlkaaDoor.PlainWalk Go.Proofs.YtnghjojddhdlkaaDoor.BackPlain
set_option linter.unusedVariables false
set_option linter.unusedSimpArgs false

theorem ext_list {r : ByteArray} {l : List UInt8} (h : r.data.toList = l) : r = ⟨l.toArray⟩ := by
  apply ByteArray.ext
  rw [← h]
theorem bt_drop (s : ByteArray) (i j : Nat) (h : i + j < s.size) : bt s ((i + j : Nat) : Int) = (((s.data.toList.drop i).getD j 0).toNat : Int) := by
  rw [bt_list s _ h]
  simp [List.getD_eq_getElem?_getD, List.getElem?_drop]
theorem digits_of (s : ByteArray) (i : Nat) (hi : i ≤ s.size) (h : ∀ j, j < s.size - i → 48 ≤ bt s ((i + j : Nat) : Int) ∧ bt s ((i + j : Nat) : Int) ≤ 57) : Digits (s.data.toList.drop i) ∧ valTo (fun j => bt s ((i + j : Nat) : Int) - 48) (s.size - i) = vl (s.data.toList.drop i) := by
  have hl : (s.data.toList.drop i).length = s.size - i := by simp
  constructor
  · intro c hc
    obtain ⟨j, hj, rfl⟩ := List.mem_iff_getElem.1 hc
    have := h j (by omega)
    rw [bt_drop s i j (by omega), List.getD_eq_getElem?_getD, List.getElem?_eq_getElem hj, Option.getD_some] at this
    omega
  · unfold vl
    rw [hl]
    exact valTo_congr _ _ _ (fun j hj => by unfold dg; rw [bt_drop s i j (by omega)])
theorem many (l : List UInt8) (h : Digits l) (hv : 9223372036854775808 ≤ vl l) : 19 ≤ l.length := by
  have h1 := (val_lt l h).2
  by_cases c : 19 ≤ l.length
  · exact c
  · have : 10 ^ l.length ≤ 10 ^ 18 := Nat.pow_le_pow_right (by omega) (by omega)
    have e : (10 : Nat) ^ 18 = 1000000000000000000 := by decide
    omega

/-- What a text can read as. -/
theorem ways (s : ByteArray) : (readR s = (0, 3) ∧ s.size > 1048576) ∨ readR s = (0, 10) ∨ (readR s = (0, 11) ∧ 19 ≤ s.size) ∨
    (∃ v : Int, readR s = (v, 0) ∧ -9223372036854775808 ≤ v ∧ v ≤ 9223372036854775807 ∧ 1 ≤ s.size ∧ ∀ W : World, Calls Tryd.prog 23 #[.string s] W fun e w' => e = .returned (.string ⟨(Lib.itoa v).toArray⟩) ∧ W = w') := by
  by_cases c0 : s.size > 1048576
  · exact .inl ⟨by unfold readR; rw [if_pos c0], c0⟩
  by_cases c1 : 0 < s.size ∧ bt s 0 = 45
  · have hb : decide (0 < s.size ∧ bt s 0 = 45) = true := decide_eq_true c1
    by_cases c2 : 1 = s.size
    · refine .inr (.inl ?_)
      unfold readR
      simp only [hb, if_true]
      rw [if_neg c0, if_pos c2]
    · by_cases c3 : ∀ j, j < s.size - 1 → 48 ≤ bt s ((1 + j : Nat) : Int) ∧ bt s ((1 + j : Nat) : Int) ≤ 57
      · obtain ⟨hd, hv⟩ := digits_of s 1 (by omega) c3
        have hr : readR s = finP true (vl (s.data.toList.drop 1)) := by
          unfold readR
          simp only [hb, if_true]
          rw [if_neg c0, if_neg c2, if_pos c3, hv]
        have hp := val_lt _ hd
        have hl : (s.data.toList.drop 1).length = s.size - 1 := by simp
        by_cases c4 : vl (s.data.toList.drop 1) > 9223372036854775808
        · refine .inr (.inr (.inl ⟨by rw [hr]; unfold finP; rw [if_pos c4], ?_⟩))
          have := many _ hd (by omega); omega
        · refine .inr (.inr (.inr ⟨-(vl (s.data.toList.drop 1)), by rw [hr]; unfold finP; rw [if_neg c4, if_pos rfl], by omega, by omega, by omega, fun W => ?_⟩))
          refine (plain_sign s (by omega) (by omega) c1.2 W).mono ?_
          rintro e w' ⟨r, ht, rfl, rfl⟩
          refine ⟨?_, rfl⟩
          have hx : (s.extract 1 s.size).data.toList = s.data.toList.drop 1 := extract_list s 1
          have hsz : (s.extract 1 s.size).size = s.size - 1 := by rw [ByteArray.size_extract]; omega
          have h := told_is (s.extract 1 s.size) [45] (by rw [hx]; exact hd) (by omega) r ht
          rw [hx] at h
          rw [ext_list h]
          congr 3
          unfold Lib.itoa
          by_cases z : vl (s.data.toList.drop 1) = 0
          · rw [z]; rfl
          · rw [if_neg z, if_pos (by omega), show (-(vl (s.data.toList.drop 1))).natAbs = (vl (s.data.toList.drop 1)).toNat by omega]; rfl
      · refine .inr (.inl ?_)
        unfold readR
        simp only [hb, if_true]
        rw [if_neg c0, if_neg c2, if_neg c3]
  · have hb : decide (0 < s.size ∧ bt s 0 = 45) = false := decide_eq_false c1
    by_cases c2 : 0 = s.size
    · refine .inr (.inl ?_)
      unfold readR
      simp only [hb, Bool.false_eq_true, if_false]
      rw [if_neg c0, if_pos c2]
    · by_cases c3 : ∀ j, j < s.size - 0 → 48 ≤ bt s ((0 + j : Nat) : Int) ∧ bt s ((0 + j : Nat) : Int) ≤ 57
      · obtain ⟨hd, hv⟩ := digits_of s 0 (by omega) c3
        have hr : readR s = finP false (vl (s.data.toList.drop 0)) := by
          unfold readR
          simp only [hb, Bool.false_eq_true, if_false]
          rw [if_neg c0, if_neg c2, if_pos c3, hv]
        rw [List.drop_zero] at hd hr
        have hp := val_lt _ hd
        have hl : s.data.toList.length = s.size := by simp
        by_cases c4 : vl s.data.toList > 9223372036854775808
        · refine .inr (.inr (.inl ⟨by rw [hr]; unfold finP; rw [if_pos c4], ?_⟩))
          have := many _ hd (by omega); omega
        · by_cases c5 : vl s.data.toList = 9223372036854775808
          · refine .inr (.inr (.inl ⟨by rw [hr]; unfold finP; rw [if_neg c4, if_neg (by decide), if_pos c5], ?_⟩))
            have := many _ hd (by omega); omega
          · refine .inr (.inr (.inr ⟨vl s.data.toList, by rw [hr]; unfold finP; rw [if_neg c4, if_neg (by decide), if_neg c5], by omega, by omega, by omega, fun W => ?_⟩))
            refine (plain_nosign s (by omega) (by omega) (fun e => c1 ⟨by omega, e⟩) W).mono ?_
            rintro e w' ⟨r, ht, rfl, rfl⟩
            refine ⟨?_, rfl⟩
            have h := told_is s [] hd (by omega) r ht
            rw [ext_list h]
            congr 3
            unfold Lib.itoa
            rw [if_neg (show ¬ vl s.data.toList < 0 by omega)]
            split <;> rfl
      · refine .inr (.inl ?_)
        unfold readR
        simp only [hb, Bool.false_eq_true, if_false]
        rw [if_neg c0, if_neg c2, if_neg c3]

/-- The calls that every way shares. -/
structure Calls' (n : Int) (s : ByteArray) (v f : Int) (w : World) : Prop where
  al : ∀ W : World, Below w.heap.size w W → Calls Tryd.prog 14 #[] W fun e w' => e = .returned (.bool true) ∧ Below W.heap.size W w'
  tx : ∀ W : World, Below w.heap.size w W → Calls Tryd.prog 12 #[.int .i64 n] W fun e w' => e = .returned (.string ⟨(Lib.itoa n).toArray⟩) ∧ Below W.heap.size W w'
  pn : ∀ W : World, Calls Tryd.prog 10 #[.string ⟨(Lib.itoa n).toArray⟩] W fun e w' => e = .returned (.tuple #[.int .i64 n, .int .i64 0]) ∧ Drawn0 W w'
  ps : ∀ W : World, Calls Tryd.prog 10 #[.string s] W fun e w' => e = .returned (.tuple #[.int .i64 v, .int .i64 f]) ∧ Drawn0 W w'
theorem calls' (n : Int) (n0 : -9223372036854775808 ≤ n) (n1 : n ≤ 9223372036854775807) (s : ByteArray) (v f : Int) (h : readR s = (v, f)) (w : World) (hp : Pow w) : Calls' n s v f w where
  al := fun W hb => alive W (hp.on hb)
  tx := fun W hb => text_any n n0 n1 W (hp.on hb)
  pn := fun W => PTexts.whole_Parse.calls _ _ n 0 W ((prog_reads _ _ (Nat.le_refl _)).trans (congrArg some (reads_itoa n n0 n1)))
  ps := fun W => PTexts.whole_Parse.calls _ s v f W ((prog_reads _ _ (Nat.le_refl _)).trans (congrArg some h))
/-! walks -/
set_option maxHeartbeats 4000000 in
set_option maxRecDepth 100000 in
theorem law3 (n : Int) (s : ByteArray) (hs : s.size > 1048576) (w : World) (hc : Calls' n s 0 3 w) :
    Calls Tryd.prog 7 #[.int .i64 n, .string s] w fun e w' => e = .returned (.bool true) ∧ Below w.heap.size w w' := by
  have hs' : decide (1048576 < s.size) = true := by simpa using hs
  have hs2 : decide ((1048576 : Int) < (s.size : Int)) = true := by simpa using (show (1048576 : Int) < (s.size : Int) by omega)
  have AL := Lib.hid hc.al; have TX := Lib.hid hc.tx; have PN := Lib.hid hc.pn; have PS := Lib.hid hc.ps
  clear hc
  generalize (⟨(Lib.itoa n).toArray⟩ : ByteArray) = z at *
  go_enter Tryd.func7, Tryd.ntmps7
  go_wp2_with (first
    | (go_at_call 14; refine (AL.out _ (Below.refl _ _)).mono ?_; rintro e w' ⟨rfl, ha⟩)
    | (go_at_call 12; with_reducible refine (TX.out _ ?_).mono ?_; (exact ha); rintro e w' ⟨rfl, hb⟩)
    | (go_at_call 10; with_reducible refine (PN.out _).mono ?_; rintro e w' ⟨rfl, ⟨nd, rfl⟩⟩)
    | (go_at_call 10; with_reducible refine (PS.out _).mono ?_; rintro e w' ⟨rfl, ⟨nd, rfl⟩⟩))
  go_ret
  exact ⟨rfl, by repeat (first | exact chain ha hb | apply pw_below_drewN)⟩
set_option maxHeartbeats 4000000 in
set_option maxRecDepth 100000 in
theorem law10 (n : Int) (s : ByteArray)  (w : World) (hc : Calls' n s 0 10 w) :
    Calls Tryd.prog 7 #[.int .i64 n, .string s] w fun e w' => e = .returned (.bool true) ∧ Below w.heap.size w w' := by
  have AL := Lib.hid hc.al; have TX := Lib.hid hc.tx; have PN := Lib.hid hc.pn; have PS := Lib.hid hc.ps
  clear hc
  generalize (⟨(Lib.itoa n).toArray⟩ : ByteArray) = z at *
  go_enter Tryd.func7, Tryd.ntmps7
  go_wp2_with (first
    | (go_at_call 14; refine (AL.out _ (Below.refl _ _)).mono ?_; rintro e w' ⟨rfl, ha⟩)
    | (go_at_call 12; with_reducible refine (TX.out _ ?_).mono ?_; (exact ha); rintro e w' ⟨rfl, hb⟩)
    | (go_at_call 10; with_reducible refine (PN.out _).mono ?_; rintro e w' ⟨rfl, ⟨nd, rfl⟩⟩)
    | (go_at_call 10; with_reducible refine (PS.out _).mono ?_; rintro e w' ⟨rfl, ⟨nd, rfl⟩⟩))
  go_ret
  exact ⟨rfl, by repeat (first | exact chain ha hb | apply pw_below_drewN)⟩
set_option maxHeartbeats 4000000 in
set_option maxRecDepth 100000 in
theorem law11 (n : Int) (s : ByteArray) (hs : 19 ≤ s.size) (w : World) (hc : Calls' n s 0 11 w) :
    Calls Tryd.prog 7 #[.int .i64 n, .string s] w fun e w' => e = .returned (.bool true) ∧ Below w.heap.size w w' := by
  have hs' : decide (19 ≤ s.size) = true := by simpa using hs
  have AL := Lib.hid hc.al; have TX := Lib.hid hc.tx; have PN := Lib.hid hc.pn; have PS := Lib.hid hc.ps
  clear hc
  generalize (⟨(Lib.itoa n).toArray⟩ : ByteArray) = z at *
  go_enter Tryd.func7, Tryd.ntmps7
  go_wp2_with (first
    | (go_at_call 14; refine (AL.out _ (Below.refl _ _)).mono ?_; rintro e w' ⟨rfl, ha⟩)
    | (go_at_call 12; with_reducible refine (TX.out _ ?_).mono ?_; (exact ha); rintro e w' ⟨rfl, hb⟩)
    | (go_at_call 10; with_reducible refine (PN.out _).mono ?_; rintro e w' ⟨rfl, ⟨nd, rfl⟩⟩)
    | (go_at_call 10; with_reducible refine (PS.out _).mono ?_; rintro e w' ⟨rfl, ⟨nd, rfl⟩⟩))
  go_ret
  exact ⟨rfl, by repeat (first | exact chain ha hb | apply pw_below_drewN)⟩
set_option maxHeartbeats 4000000 in
set_option maxRecDepth 100000 in
theorem law0 (n : Int) (s : ByteArray) (w : World) (v : Int) (hs : 1 ≤ s.size) (r : ByteArray) (tv : ∀ W : World, Below w.heap.size w W → Calls Tryd.prog 12 #[.int .i64 v] W fun e w' => e = .returned (.string r) ∧ Below W.heap.size W w') (pl : ∀ W : World, Calls Tryd.prog 23 #[.string s] W fun e w' => e = .returned (.string r) ∧ W = w') (hc : Calls' n s v 0 w) :
    Calls Tryd.prog 7 #[.int .i64 n, .string s] w fun e w' => e = .returned (.bool true) ∧ Below w.heap.size w w' := by
  have TV := Lib.hid tv; have PL := Lib.hid pl; clear tv pl
  have hs' : decide (0 < s.size) = true := by simpa using (show 0 < s.size by omega)
  have AL := Lib.hid hc.al; have TX := Lib.hid hc.tx; have PN := Lib.hid hc.pn; have PS := Lib.hid hc.ps
  clear hc
  generalize (⟨(Lib.itoa n).toArray⟩ : ByteArray) = z at *
  go_enter Tryd.func7, Tryd.ntmps7
  go_wp2_with (first
    | (go_at_call 14; refine (AL.out _ (Below.refl _ _)).mono ?_; rintro e w' ⟨rfl, ha⟩)
    | (go_at_call 12; with_reducible refine (TX.out _ ?_).mono ?_; (exact ha); rintro e w' ⟨rfl, hb⟩)
    | (go_at_call 10; with_reducible refine (PN.out _).mono ?_; rintro e w' ⟨rfl, ⟨nd, rfl⟩⟩)
    | (go_at_call 10; with_reducible refine (PS.out _).mono ?_; rintro e w' ⟨rfl, ⟨nd, rfl⟩⟩)
    | (go_at_call 12; with_reducible refine (TV.out _ ?_).mono ?_; (repeat (first | exact chain ha hb | apply pw_below_drewN)); rintro e w' ⟨rfl, hd⟩)
    | (go_at_call 23; refine (PL.out _).mono ?_; rintro e w' ⟨rfl, rfl⟩))
  go_ret
  exact ⟨rfl, chain (by repeat (first | exact chain ha hb | apply pw_below_drewN)) hd⟩
theorem law (n : Int) (s : ByteArray) (hn : (Lit.int .i64 n).wf = true) (w : World) (hp : Pow w) :
    Calls Tryd.prog 7 #[.int .i64 n, .string s] w fun e w' => e = .returned (.bool true) ∧ Below w.heap.size w w' := by
  simp [Lit.wf, IntKind.min, IntKind.max, IntKind.signed, IntKind.bits] at hn
  obtain ⟨n0, n1⟩ := hn
  rcases ways s with ⟨h, hs⟩ | h | ⟨h, hs⟩ | ⟨v, h, v0, v1, hs, pl⟩
  · exact law3 n s hs w (calls' n n0 (by omega) s _ _ h w hp)
  · exact law10 n s w (calls' n n0 (by omega) s _ _ h w hp)
  · exact law11 n s hs w (calls' n n0 (by omega) s _ _ h w hp)
  · exact law0 n s w v hs _ (fun W hb => text_any v v0 v1 W (hp.on hb)) pl (calls' n n0 (by omega) s _ _ h w hp)
end Go.Proofs.YtnghjojddhdlkaaDoor.BackWalk
