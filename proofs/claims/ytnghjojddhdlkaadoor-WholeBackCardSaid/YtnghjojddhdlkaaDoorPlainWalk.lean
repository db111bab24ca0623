/- The machine side of 'plain': a number's text without the noughts ahead of its first other digit. -/
import Derived.Test.YtnghjojddhdlkaaDoorAlive
import Derived.Test.YtnghjojddhdlkaaDoorTextPlain
namespace Go.Proofs.YtnghjojddhdlkaaDoor.PlainWalk
open Go.RowKit Go.Proofs.YtnghjojddhdlkaaDoorW.PrintWords Go.Proofs.YtnghjojddhdlkaaDoor.Alive Go.Proofs.YtnghjojddhdlkaaDoor.TextPlain
set_option linter.unusedVariables false
set_option linter.unusedSimpArgs false

/-- What 'plain' answers of digits D behind a sign. -/
def Told (sign D r : ByteArray) : Prop := ∃ k : Nat, k + 1 ≤ D.size ∧ (∀ j : Nat, j < k → bt D j = 48) ∧ (k + 1 = D.size ∨ bt D k ≠ 48) ∧ r = (if (D.extract k D.size).toList = [48] then (⟨#[]⟩ : ByteArray) else sign) ++ D.extract k D.size
def Said (sign D : ByteArray) (w : World) (e : Ending) (w' : World) : Prop := ∃ r, Told sign D r ∧ e = .returned (.string r) ∧ w = w'

set_option maxHeartbeats 4000000 in
set_option maxRecDepth 100000 in
theorem plain_nosign (D : ByteArray) (h0 : 1 ≤ D.size) (h1 : D.size ≤ 1048576) (hs : bt D 0 ≠ 45) (w : World) :
    Calls Tryd.prog 23 #[.string D] w (Said ⟨#[]⟩ D w) := by
  have h0' : 0 < D.size := by omega
  have hx := bt_at D 0 h0'
  have g0 : (((D[0]'h0').toNat : Int) == 45) = false := by
    rw [beq_eq_false_iff_ne]; intro e; exact hs (hx.symm.trans (by simpa using e))
  clear hx hs
  go_enter Tryd.func23, Tryd.ntmps23
  go_wp2
  go_loop [4, 10, 11, 12, 13, 14, 15, 16, 17, 18, 19, 20, 21, 22] (fun i _ _ _ _ _ _ _ _ _ _ _ _ _ => ∃ k : Nat, k + 1 ≤ D.size ∧ Aside0 (∀ j : Nat, j < k → bt D j = 48) ∧ i = .int .i64 k) (fun i _ _ _ _ _ _ _ _ _ _ _ _ _ => D.size - (intOf i).toNat)
  case atStart => exact ⟨0, h0, ⟨fun j hj => absurd hj (Nat.not_lt_zero j)⟩, rfl⟩
  case round =>
    obtain ⟨k, hk, hz, rfl⟩ := hrel
    by_cases hlt : k + 1 < D.size
    · have hk' : k < D.size := by omega
      have hxk := bt_at D k (by simpa using hk')
      by_cases he : bt D k = 48
      · have g : (((D[k]'hk').toNat : Int) == 48) = true := by simpa using hxk.trans he
        have hz' : Aside0 (∀ j : Nat, j < k + 1 → bt D j = 48) := ⟨fun j hj => by
          by_cases e : j = k
          · subst e; exact he
          · exact hz.out j (by omega)⟩
        clear hxk he hz
        go_wp2
        go_round
        case rel => exact ⟨k + 1, by omega, hz', by go_num⟩
        case measure => simp [intOf]; omega
      · have g : (((D[k]'hk').toNat : Int) == 48) = false := by
          rw [beq_eq_false_iff_ne]; intro e; exact he (hxk.symm.trans (by simpa using e))
        clear hxk
        by_cases ht : (D.extract k D.size).toList = [48]
        · have HT : ((D.extract k D.size).toList == [48]) = true := by simpa using ht
          have HR : Hid (Told (⟨#[]⟩ : ByteArray) D ((⟨#[]⟩ : ByteArray) ++ D.extract k D.size)) := Lib.hid ⟨k, hk, hz.out, .inr he, by rw [if_pos ht]⟩
          clear ht hz he
          go_wp2
          go_ret
          exact ⟨_, HR.out, rfl, rfl⟩
        · have HT : ((D.extract k D.size).toList == [48]) = false := by simpa using ht
          have HR : Hid (Told (⟨#[]⟩ : ByteArray) D ((⟨#[]⟩ : ByteArray) ++ D.extract k D.size)) := Lib.hid ⟨k, hk, hz.out, .inr he, by rw [if_neg ht]⟩
          clear ht hz he
          go_wp2
          go_ret
          exact ⟨_, HR.out, rfl, rfl⟩
    · have hke : k + 1 = D.size := by omega
      by_cases ht : (D.extract k D.size).toList = [48]
      · have HT : ((D.extract k D.size).toList == [48]) = true := by simpa using ht
        have HR : Hid (Told (⟨#[]⟩ : ByteArray) D ((⟨#[]⟩ : ByteArray) ++ D.extract k D.size)) := Lib.hid ⟨k, hk, hz.out, .inl hke, by rw [if_pos ht]⟩
        clear ht hz hke
        go_wp2
        go_ret
        exact ⟨_, HR.out, rfl, rfl⟩
      · have HT : ((D.extract k D.size).toList == [48]) = false := by simpa using ht
        have HR : Hid (Told (⟨#[]⟩ : ByteArray) D ((⟨#[]⟩ : ByteArray) ++ D.extract k D.size)) := Lib.hid ⟨k, hk, hz.out, .inl hke, by rw [if_neg ht]⟩
        clear ht hz hke
        go_wp2
        go_ret
        exact ⟨_, HR.out, rfl, rfl⟩

set_option maxHeartbeats 4000000 in
set_option maxRecDepth 100000 in
theorem plain_sign (s : ByteArray) (hs0 : 2 ≤ s.size) (hs1 : s.size ≤ 1048576) (hs : bt s 0 = 45) (w : World) :
    Calls Tryd.prog 23 #[.string s] w (Said ⟨#[45]⟩ (s.extract 1 s.size) w) := by
  have h0' : 0 < s.size := by omega
  have hx := bt_at s 0 h0'
  have g0 : (((s[0]'h0').toNat : Int) == 45) = true := by simpa using hx.trans hs
  clear hx hs
  have hsz : (s.extract 1 s.size).size = s.size - 1 := by rw [ByteArray.size_extract]; omega
  have h0 : 1 ≤ (s.extract 1 s.size).size := by omega
  have h1 : (s.extract 1 s.size).size ≤ 1048576 := by omega
  clear hsz
  go_enter Tryd.func23, Tryd.ntmps23
  go_wp2
  generalize s.extract 1 s.size = D at *
  go_loop [4, 10, 11, 12, 13, 14, 15, 16, 17, 18, 19, 20, 21, 22] (fun i _ _ _ _ _ _ _ _ _ _ _ _ _ => ∃ k : Nat, k + 1 ≤ D.size ∧ Aside0 (∀ j : Nat, j < k → bt D j = 48) ∧ i = .int .i64 k) (fun i _ _ _ _ _ _ _ _ _ _ _ _ _ => D.size - (intOf i).toNat)
  case atStart => exact ⟨0, h0, ⟨fun j hj => absurd hj (Nat.not_lt_zero j)⟩, rfl⟩
  case round =>
    obtain ⟨k, hk, hz, rfl⟩ := hrel
    by_cases hlt : k + 1 < D.size
    · have hk' : k < D.size := by omega
      have hxk := bt_at D k (by simpa using hk')
      by_cases he : bt D k = 48
      · have g : (((D[k]'hk').toNat : Int) == 48) = true := by simpa using hxk.trans he
        have hz' : Aside0 (∀ j : Nat, j < k + 1 → bt D j = 48) := ⟨fun j hj => by
          by_cases e : j = k
          · subst e; exact he
          · exact hz.out j (by omega)⟩
        clear hxk he hz
        go_wp2
        go_round
        case rel => exact ⟨k + 1, by omega, hz', by go_num⟩
        case measure => simp [intOf]; omega
      · have g : (((D[k]'hk').toNat : Int) == 48) = false := by
          rw [beq_eq_false_iff_ne]; intro e; exact he (hxk.symm.trans (by simpa using e))
        clear hxk
        by_cases ht : (D.extract k D.size).toList = [48]
        · have HT : ((D.extract k D.size).toList == [48]) = true := by simpa using ht
          have HR : Hid (Told (⟨#[45]⟩ : ByteArray) D ((⟨#[]⟩ : ByteArray) ++ D.extract k D.size)) := Lib.hid ⟨k, hk, hz.out, .inr he, by rw [if_pos ht]⟩
          clear ht hz he
          go_wp2
          go_ret
          exact ⟨_, HR.out, rfl, rfl⟩
        · have HT : ((D.extract k D.size).toList == [48]) = false := by simpa using ht
          have HR : Hid (Told (⟨#[45]⟩ : ByteArray) D ((⟨#[45]⟩ : ByteArray) ++ D.extract k D.size)) := Lib.hid ⟨k, hk, hz.out, .inr he, by rw [if_neg ht]⟩
          clear ht hz he
          go_wp2
          go_ret
          exact ⟨_, HR.out, rfl, rfl⟩
    · have hke : k + 1 = D.size := by omega
      by_cases ht : (D.extract k D.size).toList = [48]
      · have HT : ((D.extract k D.size).toList == [48]) = true := by simpa using ht
        have HR : Hid (Told (⟨#[45]⟩ : ByteArray) D ((⟨#[]⟩ : ByteArray) ++ D.extract k D.size)) := Lib.hid ⟨k, hk, hz.out, .inl hke, by rw [if_pos ht]⟩
        clear ht hz hke
        go_wp2
        go_ret
        exact ⟨_, HR.out, rfl, rfl⟩
      · have HT : ((D.extract k D.size).toList == [48]) = false := by simpa using ht
        have HR : Hid (Told (⟨#[45]⟩ : ByteArray) D ((⟨#[45]⟩ : ByteArray) ++ D.extract k D.size)) := Lib.hid ⟨k, hk, hz.out, .inl hke, by rw [if_neg ht]⟩
        clear ht hz hke
        go_wp2
        go_ret
        exact ⟨_, HR.out, rfl, rfl⟩
end Go.Proofs.YtnghjojddhdlkaaDoor.PlainWalk
