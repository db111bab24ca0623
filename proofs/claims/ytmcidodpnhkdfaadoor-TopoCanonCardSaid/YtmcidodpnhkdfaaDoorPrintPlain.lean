/- Plain laws on topologies' texts: what is written is read again. -/
import Derived.Test.YtmcidodpnhkdfaaDoorParseSpec
import Derived.Lib.ItoaNum
namespace Go.Proofs.YtmcidodpnhkdfaaDoor.PrintPlain
open Go.RowKit Go.Proofs.YtmcidodpnhkdfaaDoorW.PrintWords Go.Proofs.YtmcidodpnhkdfaaDoor.ParseSpec
set_option linter.unusedVariables false
set_option linter.unusedSimpArgs false

/-! ### Lists of bytes as strings -/
def S (l : List UInt8) : ByteArray := ⟨l.toArray⟩
theorem S_size (l : List UInt8) : (S l).size = l.length := by simp [S, ← ByteArray.size_data]
theorem bt_S (l : List UInt8) (i : Nat) : bt (S l) (i : Int) = ((l.getD i 0).toNat : Int) := by
  unfold bt
  simp only [Int.toNat_natCast]
  by_cases h : i < l.length
  · rw [dif_pos (by rw [S_size]; exact h), List.getD_eq_getElem?_getD, List.getElem?_eq_getElem h]
    rfl
  · rw [dif_neg (by rw [S_size]; exact h), List.getD_eq_getElem?_getD, List.getElem?_eq_none (by omega)]
    rfl
def isDg (c : UInt8) : Prop := 48 ≤ c.toNat ∧ c.toNat ≤ 57
def Digits (l : List UInt8) : Prop := ∀ c ∈ l, isDg c
/-- The first byte is no digit. -/
def Stops : List UInt8 → Prop
  | [] => True
  | c :: _ => ¬ isDg c
theorem at_app (a b : List UInt8) : (a ++ b).getD a.length 0 = b.headD 0 := by
  rw [List.getD_eq_getElem?_getD, List.getElem?_append_right (Nat.le_refl _)]
  cases b <;> simp
theorem isd_S (a b : List UInt8) : isd (S (a ++ b)) a.length = true ↔ ∃ c t, b = c :: t ∧ isDg c := by
  unfold isd
  rw [bt_S, at_app, S_size]
  cases b with
  | nil => simp
  | cons c t =>
    simp only [Bool.and_eq_true, decide_eq_true_eq, List.headD_cons, List.length_append, List.length_cons]
    constructor
    · rintro ⟨h1, h2, h3⟩
      have h2' : (48 : Int) ≤ (c.toNat : Int) := of_decide_eq_true h2
      have h3' : (c.toNat : Int) ≤ 57 := of_decide_eq_true h3
      exact ⟨c, t, rfl, by omega, by omega⟩
    · rintro ⟨c', t', e, h⟩
      injection e with e1 e2
      subst e1
      obtain ⟨h1, h2⟩ := h
      exact ⟨by omega, decide_eq_true (show (48 : Int) ≤ (c.toNat : Int) by omega), decide_eq_true (show (c.toNat : Int) ≤ 57 by omega)⟩
theorem isd_stop (a b : List UInt8) (h : Stops b) : isd (S (a ++ b)) a.length = false := by
  cases e : isd (S (a ++ b)) a.length with
  | false => rfl
  | true =>
    obtain ⟨c, t, rfl, hc⟩ := (isd_S a b).1 e
    exact absurd hc h
theorem dg_app (d : List UInt8) : ∀ (a b : List UInt8), Digits d → Stops b → dg (S (a ++ (d ++ b))) a.length = a.length + d.length := by
  induction d with
  | nil => intro a b _ hb; rw [List.nil_append, dg_no (isd_stop a b hb)]; rfl
  | cons c d ih =>
    intro a b hd hb
    have y : isd (S (a ++ (c :: d ++ b))) a.length = true := (isd_S a _).2 ⟨c, d ++ b, rfl, hd c (by simp)⟩
    rw [dg_yes y]
    have := ih (a ++ [c]) b (fun x hx => hd x (by simp [hx])) hb
    rw [List.length_append, List.append_assoc] at this
    rw [show a.length + [c].length = a.length + 1 from rfl] at this
    rw [show a ++ ((c :: d) ++ b) = a ++ ([c] ++ (d ++ b)) from rfl, this, List.length_cons]
    omega
def worth : List UInt8 → Int → Int
  | [], n => n
  | c :: t, n => worth t (stepv n (c.toNat : Int))
theorem worth_snoc (l : List UInt8) (c : UInt8) : ∀ n, worth (l ++ [c]) n = stepv (worth l n) (c.toNat : Int) := by
  induction l with
  | nil => intro n; rfl
  | cons x l ih => intro n; exact ih _
theorem valf_app (d : List UInt8) : ∀ (a b : List UInt8) (n : Int), valf (S (a ++ (d ++ b))) d.length a.length n = worth d n := by
  induction d with
  | nil => intro a b n; rfl
  | cons c d ih =>
    intro a b n
    have := ih (a ++ [c]) b (stepv n (c.toNat : Int))
    rw [List.length_append, List.append_assoc] at this
    rw [show a.length + [c].length = a.length + 1 from rfl] at this
    rw [List.length_cons]
    unfold valf
    rw [bt_S, at_app, show a ++ ((c :: d) ++ b) = a ++ ([c] ++ (d ++ b)) from rfl, show ((c :: d) ++ b).headD 0 = c from rfl, this]
    rfl
theorem val_app (a d b : List UInt8) : val (S (a ++ (d ++ b))) a.length (a.length + d.length) = worth d 0 := by
  unfold val
  rw [show a.length + d.length - a.length = d.length by omega]
  exact valf_app d a b 0
theorem nxt_S (a b : List UInt8) (of : List Int) : nxt (S (a ++ b)) a.length of = match b with | [] => false | c :: _ => of.contains (c.toNat : Int) := by
  unfold nxt
  rw [bt_S, at_app, S_size]
  cases b with
  | nil => simp
  | cons c t => simp

/-! ### Decimal texts -/
theorem dec_big {u : Nat} (h : ¬ u < 10) : Lib.decDigits u = Lib.decDigits (u / 10) ++ [UInt8.ofNat (48 + u % 10)] := by rw [Lib.decDigits, dif_neg h]
theorem dec_small {u : Nat} (h : u < 10) : Lib.decDigits u = [UInt8.ofNat (48 + u)] := by rw [Lib.decDigits, dif_pos h]
theorem dec_worth (u : Nat) : Digits (Lib.decDigits u) ∧ Lib.decDigits u ≠ [] ∧ (u ≤ 131072 → worth (Lib.decDigits u) 0 = u) := by
  induction u using Nat.strongRecOn with
  | _ u ih =>
    by_cases h : u < 10
    · rw [dec_small h]
      have e : (UInt8.ofNat (48 + u)).toNat = 48 + u := by simp; omega
      refine ⟨fun c hc => ?_, by simp, fun _ => ?_⟩
      · obtain rfl := List.mem_singleton.1 hc; unfold isDg; omega
      · unfold worth worth stepv
        rw [e]
        split <;> omega
    · rw [dec_big h]
      obtain ⟨h1, h2, h3⟩ := ih (u / 10) (by omega)
      have e : (UInt8.ofNat (48 + u % 10)).toNat = 48 + u % 10 := by simp; omega
      refine ⟨fun c hc => ?_, by simp, fun hu => ?_⟩
      · rcases List.mem_append.1 hc with hc | hc
        · exact h1 c hc
        · obtain rfl := List.mem_singleton.1 hc; unfold isDg; omega
      · rw [worth_snoc, h3 (by omega), e]
        unfold stepv
        split <;> omega
theorem dec_len (m : Nat) : ∀ u, u < 10 ^ (m + 1) → (Lib.decDigits u).length ≤ m + 1 := by
  induction m with
  | zero => intro u h; rw [dec_small (by simpa using h)]; simp
  | succ m ih =>
    intro u h
    by_cases h1 : u < 10
    · rw [dec_small h1]; simp
    · rw [dec_big h1, List.length_append]
      have := ih (u / 10) (by rw [Nat.pow_succ] at h; omega)
      simpa using this
theorem itoa_nat (u : Nat) : Lib.itoa (u : Int) = Lib.decDigits u := by
  unfold Lib.itoa
  rw [if_neg (by omega), Int.toNat_natCast]
theorem itoa_neg (u : Nat) (h : u ≠ 0) : Lib.itoa (-(u : Int)) = 45 :: Lib.decDigits u := by
  unfold Lib.itoa
  rw [if_pos (by omega), Int.natAbs_neg, Int.natAbs_natCast]

/-! ### What is written -/
/-- What stands behind a side. -/
def tl (k turn shift want : Int) : List UInt8 :=
  if turn = want then (if k = 3 then [42] else []) ++ ((if 0 < shift then [43] else []) ++ (if shift = 0 then [] else Lib.itoa shift)) else []
def letter (k : Int) : UInt8 := if k = 1 then 80 else if k = 2 then 84 else if k = 3 then 75 else if k = 4 then 67 else 83
/-- A topology's text. -/
def printL (k w h turn shift : Int) : List UInt8 :=
  letter k :: (if w = 0 ∧ h = 0 then [] else Lib.itoa w ++ (if k = 5 then [] else tl k turn shift 1 ++ (44 :: (Lib.itoa h ++ tl k turn shift 2))))

/-- A sign with its number: none, or the sign's byte and the number. -/
def sg : Option (UInt8 × Nat) → List UInt8
  | none => []
  | some (c, m) => c :: Lib.decDigits m
def st (b : Bool) : List UInt8 := if b then [42] else []
/-- A side as it was written: its number, its star, its sign with its number. -/
structure SideOk (s : ByteArray) (p : Pt) (n : Nat) (b : Bool) (o : Option (UInt8 × Nat)) : Prop where
  v : val s p.at_ p.en = worth (Lib.decDigits n) 0
  st : p.star < 0 ↔ b = false
  sg : p.sign < 0 ↔ o = none
  sh : ∀ c m, o = some (c, m) → val s p.fr p.to_ = worth (Lib.decDigits m) 0 ∧ bt s p.sign = (c.toNat : Int)
theorem stops_rest {r : List UInt8} (hr : r = [] ∨ ∃ t, r = 44 :: t) : Stops r := by
  rcases hr with rfl | ⟨t, rfl⟩
  · trivial
  · show ¬ isDg 44; unfold isDg; decide
theorem stops_sg {r : List UInt8} (o : Option (UInt8 × Nat)) (ho : ∀ c m, o = some (c, m) → c = 43 ∨ c = 45) (hr : Stops r) : Stops (sg o ++ r) := by
  rcases o with _ | ⟨c, m⟩
  · exact hr
  · show ¬ isDg c
    rcases ho c m rfl with rfl | rfl <;> (unfold isDg; decide)
theorem stops_st {r : List UInt8} (b : Bool) (hr : Stops r) : Stops (st b ++ r) := by
  cases b
  · exact hr
  · show ¬ isDg 42; unfold isDg; decide
theorem takes_side (a : List UInt8) (n : Nat) (b : Bool) (o : Option (UInt8 × Nat)) (r : List UInt8) (tail : Bool) (hr : r = [] ∨ ∃ t, r = 44 :: t) (ho : ∀ c m, o = some (c, m) → c = 43 ∨ c = 45) (ht : tail = false → b = false ∧ o = none) :
    ∃ p, takes (S (a ++ (Lib.decDigits n ++ (st b ++ (sg o ++ r))))) a.length tail = (p, a.length + (Lib.decDigits n).length + (st b).length + (sg o).length, 0) ∧ SideOk (S (a ++ (Lib.decDigits n ++ (st b ++ (sg o ++ r))))) p n b o := by
  obtain ⟨d1, d2, _⟩ := dec_worth n
  have v0 := val_app a (Lib.decDigits n) (st b ++ (sg o ++ r))
  generalize hD : Lib.decDigits n = D at d1 d2 v0
  have hne : D.length ≠ 0 := fun z => d2 (List.length_eq_zero_iff.1 z)
  have stopr := stops_rest hr
  have stop : Stops (st b ++ (sg o ++ r)) := stops_st b (stops_sg o ho stopr)
  have e1 : dg (S (a ++ (D ++ (st b ++ (sg o ++ r))))) a.length = a.length + D.length := dg_app D a _ d1 stop
  have n1 : nxt (S (a ++ (D ++ (st b ++ (sg o ++ r))))) (a.length + D.length) [42] = b := by
    have := nxt_S (a ++ D) (st b ++ (sg o ++ r)) [42]
    rw [List.append_assoc, List.length_append] at this
    rw [this]
    cases b
    · rcases o with _ | ⟨c, m⟩
      · rcases hr with rfl | ⟨t, rfl⟩ <;> rfl
      · rcases ho c m rfl with rfl | rfl <;> rfl
    · rfl
  have n2 : nxt (S (a ++ (D ++ (st b ++ (sg o ++ r))))) (a.length + D.length + (st b).length) [43, 45] = o.isSome := by
    have := nxt_S (a ++ D ++ st b) (sg o ++ r) [43, 45]
    simp only [List.append_assoc, List.length_append] at this
    rw [show a.length + D.length + (st b).length = a.length + (D.length + (st b).length) by omega, this]
    rcases o with _ | ⟨c, m⟩
    · rcases hr with rfl | ⟨t, rfl⟩ <;> rfl
    · rcases ho c m rfl with rfl | rfl <;> rfl
  have hb : behind (S (a ++ (D ++ (st b ++ (sg o ++ r))))) (a.length + D.length) tail = a.length + D.length + (st b).length := by
    unfold behind
    rw [n1]
    cases tail
    · rw [(ht rfl).1]; rfl
    · cases b <;> rfl
  have hs : starAt (S (a ++ (D ++ (st b ++ (sg o ++ r))))) (a.length + D.length) tail = if b then ((a.length + D.length : Nat) : Int) else -1 := by
    unfold starAt
    rw [n1]
    cases tail
    · rw [(ht rfl).1]; rfl
    · cases b <;> rfl
  have hn : (tail && o.isSome) = o.isSome := by
    cases tail
    · rw [(ht rfl).2]; rfl
    · rfl
  have hst : (if b then ((a.length + D.length : Nat) : Int) else -1) < 0 ↔ b = false := by cases b <;> simp <;> omega
  unfold takes
  simp only [e1, hb, hs, n2, hn]
  rw [if_neg (by omega)]
  rcases o with _ | ⟨c, m⟩
  · refine ⟨_, rfl, ?_, ?_, ?_, ?_⟩
    · rw [hD]; exact v0
    · exact hst
    · simp
    · intro c m h; exact absurd h (by simp)
  · obtain ⟨f1, f2, _⟩ := dec_worth m
    have e2 := dg_app (Lib.decDigits m) (a ++ D ++ st b ++ [c]) r f1 stopr
    have v2 := val_app (a ++ D ++ st b ++ [c]) (Lib.decDigits m) r
    have b2 := bt_S (a ++ D ++ st b ++ (c :: (Lib.decDigits m ++ r))) (a ++ D ++ st b).length
    rw [at_app, List.headD_cons] at b2
    have hl : (a ++ D ++ st b ++ [c]).length = a.length + D.length + (st b).length + 1 := by simp only [List.length_append, List.length_singleton]
    have hl2 : (a ++ D ++ st b).length = a.length + D.length + (st b).length := by simp only [List.length_append]
    have ht : a ++ D ++ st b ++ [c] ++ (Lib.decDigits m ++ r) = a ++ (D ++ (st b ++ (sg (some (c, m)) ++ r))) := by simp [sg]
    have ht2 : a ++ D ++ st b ++ (c :: (Lib.decDigits m ++ r)) = a ++ (D ++ (st b ++ (sg (some (c, m)) ++ r))) := by simp [sg]
    rw [hl, ht] at e2 v2
    rw [hl2, ht2] at b2
    have hf : (Lib.decDigits m).length ≠ 0 := fun z => f2 (List.length_eq_zero_iff.1 z)
    simp only [e2, Option.isSome_some, if_true]
    rw [if_neg (by omega)]
    have : a.length + D.length + (st b).length + 1 + (Lib.decDigits m).length = a.length + D.length + (st b).length + (sg (some (c, m))).length := by simp only [sg, List.length_cons]; omega
    rw [this]
    refine ⟨_, rfl, ?_, ?_, ?_, ?_⟩
    · rw [hD]; exact v0
    · exact hst
    · constructor
      · intro h; exact absurd h (show ¬ ((a.length + D.length + (st b).length : Nat) : Int) < 0 by omega)
      · intro h; exact absurd h (by simp)
    · intro c' m' h
      obtain ⟨rfl, rfl⟩ : c = c' ∧ m = m' := by simpa using h
      exact ⟨this ▸ v2, b2⟩

/-! ### Topologies that may be -/
def OkT (k w h u x : Int) : Prop :=
  1 ≤ k ∧ k ≤ 5 ∧ 0 ≤ w ∧ w ≤ 65536 ∧ 0 ≤ h ∧ h ≤ 65536 ∧ (k = 5 → w = h) ∧ (3 ≤ k → w ≠ 0 ∧ h ≠ 0) ∧
    (u = 0 ∧ x = 0 ∧ k ≠ 3 ∨ (k = 2 ∧ x ≠ 0 ∧ w ≠ 0 ∧ h ≠ 0 ∨ k = 3) ∧ (u = 1 ∧ -w < x ∧ x < w ∨ u = 2 ∧ -h < x ∧ x < h))
/-- The sign that a side has. -/
def oo (u x want : Int) : Option (UInt8 × Nat) := if u = want ∧ x ≠ 0 then some (if x < 0 then 45 else 43, x.natAbs) else none
theorem oo_byte (u x want : Int) : ∀ c m, oo u x want = some (c, m) → c = 43 ∨ c = 45 := by
  intro c m h
  unfold oo at h
  split at h
  · simp only [Option.some.injEq, Prod.mk.injEq] at h
    obtain ⟨rfl, rfl⟩ := h
    split <;> simp
  · exact absurd h (by simp)
theorem tl_eq (k u x want : Int) : tl k u x want = st (decide (u = want ∧ k = 3)) ++ sg (oo u x want) := by
  unfold tl oo
  by_cases c : u = want
  · rw [if_pos c]
    have e1 : (if k = 3 then ([42] : List UInt8) else []) = st (decide (u = want ∧ k = 3)) := by
      unfold st
      by_cases c3 : k = 3 <;> simp [c, c3]
    rw [e1]
    congr 1
    by_cases c0 : x = 0
    · subst c0; simp [sg]
    · by_cases cn : x < 0
      · obtain ⟨m, rfl⟩ : ∃ m : Nat, x = -(m : Int) := ⟨x.natAbs, by omega⟩
        rw [if_neg (by omega), if_neg c0, if_pos ⟨c, c0⟩, if_pos cn, itoa_neg m (by omega)]
        simp [sg]
      · obtain ⟨m, rfl⟩ : ∃ m : Nat, x = (m : Int) := ⟨x.natAbs, by omega⟩
        rw [if_pos (by omega), if_neg c0, if_pos ⟨c, c0⟩, if_neg cn, itoa_nat m]
        simp [sg]
  · rw [if_neg c, if_neg (fun h => c h.1)]
    simp [st, sg, c]
theorem kind_letter (k : Int) (h1 : 1 ≤ k) (h5 : k ≤ 5) (t : List UInt8) : kindOf (S (letter k :: t)) = k := by
  unfold kindOf
  rw [if_neg (by rw [S_size]; simp), show (0 : Int) = ((0 : Nat) : Int) from rfl, bt_S]
  show kindB ((letter k).toNat : Int) = k
  obtain rfl | rfl | rfl | rfl | rfl : k = 1 ∨ k = 2 ∨ k = 3 ∨ k = 4 ∨ k = 5 := by omega
  all_goals decide
theorem side_v {s : ByteArray} {p : Pt} {n : Nat} {b : Bool} {o : Option (UInt8 × Nat)} (P : SideOk s p n b o) (w : Int) (hw : w = (n : Int)) (h : w ≤ 65536) : val s p.at_ p.en = w := by
  rw [P.v, (dec_worth n).2.2 (by omega), hw]
theorem side_sh {s : ByteArray} {p : Pt} {n : Nat} {b : Bool} {u x want : Int} (P : SideOk s p n b (oo u x want)) (hu : u = want) (hx : x ≠ 0) (h1 : -131072 ≤ x) (h2 : x ≤ 131072) :
    val s p.fr p.to_ = (x.natAbs : Int) ∧ (bt s p.sign = 45 ↔ x < 0) := by
  obtain ⟨a1, a2⟩ := P.sh (if x < 0 then 45 else 43) x.natAbs (by unfold oo; rw [if_pos ⟨hu, hx⟩])
  refine ⟨by rw [a1, (dec_worth _).2.2 (by omega)], ?_⟩
  rw [a2]
  split
  · simp; assumption
  · simp; omega
theorem sense_of (s : ByteArray) (k w h : Int) (p q : Pt) (v1 : val s p.at_ p.en = w) (v2 : val s q.at_ q.en = h) (hw : w ≤ 65536) (hh : h ≤ 65536) (he : 3 ≤ k → w ≠ 0 ∧ h ≠ 0)
    (hs : (p.star < 0 ∧ q.star < 0 ∧ k ≠ 3) ∨ (k = 3 ∧ ¬ p.star < 0 ∧ q.star < 0) ∨ (k = 3 ∧ p.star < 0 ∧ ¬ q.star < 0))
    (hg : (p.sign < 0 ∧ q.sign < 0) ∨ (¬ p.sign < 0 ∧ q.sign < 0 ∧ wrong s k w h p 0 = false) ∨ (p.sign < 0 ∧ ¬ q.sign < 0 ∧ wrong s k w h q 0 = false)) : sense s k w h [p, q] = (0, 0) := by
  have b1 : badSide s [p, q] = none := by simp only [badSide, v1, v2]; rw [if_neg (by omega), if_neg (by omega)]
  have b2 : badEnd s k [p, q] = none := by
    simp only [badEnd, v1, v2]; rw [if_neg (fun c => (he c.1).1 c.2), if_neg (fun c => (he c.1).2 c.2)]
  have b3 : badStar k [p, q] 0 = none ∧ ¬ (k = 3 ∧ stars [p, q] = 0) := by
    simp only [badStar, stars]
    rcases hs with ⟨c1, c2, c3⟩ | ⟨c3, c1, c2⟩ | ⟨c3, c1, c2⟩
    · rw [if_pos c1, if_pos c2]; exact ⟨rfl, fun h => c3 h.1⟩
    · subst c3; rw [if_neg c1, if_pos c2, if_neg c1, if_pos c2]; simp
    · subst c3; rw [if_pos c1, if_neg c2, if_pos c1, if_neg c2]; simp
  have b5 : badSign s k w h [p, q] 0 = none := by
    simp only [badSign]
    rcases hg with ⟨c1, c2⟩ | ⟨c1, c2, c3⟩ | ⟨c1, c2, c3⟩
    · rw [if_pos c1, if_pos c2]
    · rw [if_neg c1, c3, if_pos c2]; simp
    · rw [if_pos c1, if_neg c2, c3]; simp
  unfold sense
  rw [b1, b2, b3.1]
  dsimp only
  rw [if_neg b3.2, b5]
theorem sense_ok (s : ByteArray) (k w h u x : Int) (hO : OkT k w h u x) (hk5 : k ≠ 5) (p q : Pt) (W H : Nat) (hW : w = W) (hH : h = H)
    (P : SideOk s p W (decide (u = 1 ∧ k = 3)) (oo u x 1)) (Q : SideOk s q H (decide (u = 2 ∧ k = 3)) (oo u x 2)) :
    sense s k w h [p, q] = (0, 0) ∧ turns s [p, q] 0 (0, 0) = (u, x) := by
  obtain ⟨a1, a2, a3, a4, a5, a6, a7, a8, a9⟩ := hO
  have v1 := side_v P w hW a4
  have v2 := side_v Q h hH a6
  have s1 : p.star < 0 ↔ ¬ (u = 1 ∧ k = 3) := by rw [P.st]; simp
  have s2 : q.star < 0 ↔ ¬ (u = 2 ∧ k = 3) := by rw [Q.st]; simp
  have g1 : p.sign < 0 ↔ ¬ (u = 1 ∧ x ≠ 0) := by rw [P.sg]; unfold oo; split <;> simp_all
  have g2 : q.sign < 0 ↔ ¬ (u = 2 ∧ x ≠ 0) := by rw [Q.sg]; unfold oo; split <;> simp_all
  rcases a9 with ⟨rfl, rfl, c3⟩ | ⟨ck, ⟨rfl, c1, c2⟩ | ⟨rfl, c1, c2⟩⟩
  · refine ⟨sense_of s k w h p q v1 v2 a4 a6 a8 (.inl ⟨s1.2 (by simp), s2.2 (by simp), c3⟩) (.inl ⟨g1.2 (by simp), g2.2 (by simp)⟩), ?_⟩
    simp only [turns]
    rw [if_pos ⟨s2.2 (by simp), g2.2 (by simp)⟩, if_pos ⟨s1.2 (by simp), g1.2 (by simp)⟩]
  · have x1 : x ≠ 0 → val s p.fr p.to_ = (x.natAbs : Int) ∧ (bt s p.sign = 45 ↔ x < 0) := fun d => side_sh P rfl d (by omega) (by omega)
    have z2 : q.star < 0 := s2.2 (by simp)
    have y2 : q.sign < 0 := g2.2 (by simp)
    clear s2 g2 P Q
    refine ⟨sense_of s k w h p q v1 v2 a4 a6 a8 ?_ ?_, ?_⟩
    · by_cases k3 : k = 3
      · exact .inr (.inl ⟨k3, fun z => s1.1 z ⟨rfl, k3⟩, z2⟩)
      · exact .inl ⟨s1.2 (fun z => k3 z.2), z2, k3⟩
    · by_cases x0 : x = 0
      · exact .inl ⟨g1.2 (fun z => z.2 x0), y2⟩
      · refine .inr (.inl ⟨fun z => g1.1 z ⟨rfl, x0⟩, y2, ?_⟩)
        have y1 := (x1 x0).1
        unfold wrong
        rw [v1, y1]
        rcases ck with ⟨rfl, _, w0, h0⟩ | rfl
        · simp [w0, h0]; omega
        · have : ¬ p.star < 0 := fun z => s1.1 z ⟨rfl, rfl⟩
          simp [this]; omega
    · simp only [turns]
      rw [if_pos (show q.star < 0 ∧ q.sign < 0 from ⟨z2, y2⟩)]
      by_cases x0 : x = 0
      · have k3 : k = 3 := by exact ck.elim (fun z => absurd x0 z.2.1) id
        rw [if_neg (fun z => s1.1 z.1 ⟨rfl, k3⟩), if_neg (show ¬ (0 : Int) ≤ p.sign by have := g1.2 (fun z => z.2 x0); omega), x0]
        rfl
      · have gs : ¬ p.sign < 0 := fun z => g1.1 z ⟨rfl, x0⟩
        rw [if_neg (fun z => gs z.2), if_pos (show (0 : Int) ≤ p.sign by omega), (x1 x0).1]
        by_cases cn : x < 0
        · rw [if_pos ((x1 x0).2.2 cn)]; simp; omega
        · rw [if_neg (fun z => cn ((x1 x0).2.1 z))]; simp; omega
  · have x1 : x ≠ 0 → val s q.fr q.to_ = (x.natAbs : Int) ∧ (bt s q.sign = 45 ↔ x < 0) := fun d => side_sh Q rfl d (by omega) (by omega)
    have z2 : p.star < 0 := s1.2 (by simp)
    have y2 : p.sign < 0 := g1.2 (by simp)
    clear s1 g1 P Q
    refine ⟨sense_of s k w h p q v1 v2 a4 a6 a8 ?_ ?_, ?_⟩
    · by_cases k3 : k = 3
      · exact .inr (.inr ⟨k3, z2, fun z => s2.1 z ⟨rfl, k3⟩⟩)
      · exact .inl ⟨z2, s2.2 (fun z => k3 z.2), k3⟩
    · by_cases x0 : x = 0
      · exact .inl ⟨y2, g2.2 (fun z => z.2 x0)⟩
      · refine .inr (.inr ⟨y2, fun z => g2.1 z ⟨rfl, x0⟩, ?_⟩)
        have y1 := (x1 x0).1
        unfold wrong
        rw [v2, y1]
        rcases ck with ⟨rfl, _, w0, h0⟩ | rfl
        · simp [w0, h0]; omega
        · have : ¬ q.star < 0 := fun z => s2.1 z ⟨rfl, rfl⟩
          simp [this]; omega
    · simp only [turns]
      rw [if_pos (show p.star < 0 ∧ p.sign < 0 from ⟨z2, y2⟩)]
      by_cases x0 : x = 0
      · have k3 : k = 3 := by exact ck.elim (fun z => absurd x0 z.2.1) id
        rw [if_neg (fun z => s2.1 z.1 ⟨rfl, k3⟩), if_neg (show ¬ (0 : Int) ≤ q.sign by have := g2.2 (fun z => z.2 x0); omega), x0]
        rfl
      · have gs : ¬ q.sign < 0 := fun z => g2.1 z ⟨rfl, x0⟩
        rw [if_neg (fun z => gs z.2), if_pos (show (0 : Int) ≤ q.sign by omega), (x1 x0).1]
        by_cases cn : x < 0
        · rw [if_pos ((x1 x0).2.2 cn)]; simp; omega
        · rw [if_neg (fun z => cn ((x1 x0).2.1 z))]; simp; omega
theorem parse_two (s : ByteArray) (k w h u x : Int) (hO : OkT k w h u x) (hs : s.size ≤ 1048576) (hk : kindOf s = k) (hk5 : k ≠ 5) (p q : Pt) (m : Nat) (hf : form s k = ([p, q], m, 0)) (W H : Nat) (hW : w = W) (hH : h = H)
    (P : SideOk s p W (decide (u = 1 ∧ k = 3)) (oo u x 1)) (Q : SideOk s q H (decide (u = 2 ∧ k = 3)) (oo u x 2)) : parse s = (k, w, h, u, x, 0, 0) := by
  obtain ⟨e1, e2⟩ := sense_ok s k w h u x hO hk5 p q W H hW hH P Q
  unfold parse
  rw [if_neg (by omega), if_neg (by rw [hk]; have := hO.1; omega), hk, hf]
  simp only
  rw [side_v P w hW hO.2.2.2.1, side_v Q h hH hO.2.2.2.2.2.1, e1, e2]
  simp
/-- A text is short. -/
theorem side_len (n : Nat) (h : n ≤ 65536) : (Lib.decDigits n).length ≤ 5 := dec_len 4 n (by omega)
theorem sg_len (u x want : Int) (h1 : -65536 ≤ x) (h2 : x ≤ 65536) : (sg (oo u x want)).length ≤ 6 := by
  unfold oo
  split
  · simp only [sg, List.length_cons]
    have := side_len x.natAbs (by omega)
    omega
  · simp [sg]
theorem st_len (b : Bool) : (st b).length ≤ 1 := by cases b <;> simp [st]
/-- What is written is read again. -/
theorem parse_print (k w h u x : Int) (hO : OkT k w h u x) : parse (S (printL k w h u x)) = (k, w, h, u, x, 0, 0) := by
  have hO' := hO
  obtain ⟨a1, a2, a3, a4, a5, a6, a7, a8, a9⟩ := hO
  unfold printL
  by_cases c0 : w = 0 ∧ h = 0
  · rw [if_pos c0]
    obtain ⟨rfl, rfl⟩ := c0
    obtain ⟨rfl, rfl⟩ : u = 0 ∧ x = 0 := by omega
    have ff : form (S [letter k]) k = ([], 1, 0) := by
      unfold form
      rw [if_pos ⟨by rw [S_size]; rfl, by omega⟩]
    unfold parse
    rw [kind_letter k a1 a2, if_neg (by rw [S_size]; simp), if_neg (by omega), ff]
    simp
  · rw [if_neg c0]
    obtain ⟨W, rfl⟩ : ∃ W : Nat, w = (W : Int) := ⟨w.toNat, by omega⟩
    obtain ⟨H, rfl⟩ : ∃ H : Nat, h = (H : Int) := ⟨h.toNat, by omega⟩
    have lW := side_len W (by omega)
    have lH := side_len H (by omega)
    by_cases c5 : k = 5
    · subst c5
      obtain ⟨rfl, rfl⟩ : u = 0 ∧ x = 0 := by omega
      rw [if_pos rfl, itoa_nat]
      obtain ⟨p, t1, P⟩ := takes_side [letter 5] W false none [] false (.inl rfl) (by simp) (by simp)
      have tx : letter 5 :: (Lib.decDigits W ++ []) = [letter 5] ++ (Lib.decDigits W ++ (st false ++ (sg none ++ []))) := by simp [st, sg]
      rw [tx]
      have kd : kindOf (S ([letter 5] ++ (Lib.decDigits W ++ (st false ++ (sg none ++ []))))) = 5 := kind_letter 5 (by omega) (by omega) _
      have sz : (S ([letter 5] ++ (Lib.decDigits W ++ (st false ++ (sg none ++ []))))).size = 1 + (Lib.decDigits W).length := by rw [S_size]; simp [st, sg]; omega
      generalize S ([letter 5] ++ (Lib.decDigits W ++ (st false ++ (sg none ++ [])))) = s at t1 P kd sz
      have ff : form s 5 = ([p], 1 + (Lib.decDigits W).length, 0) := by
        unfold form
        rw [if_neg (by omega)]
        have : ((5 : Int) != 5) = false := rfl
        simp only [this]
        rw [show [letter 5].length = 1 from rfl] at t1
        rw [t1]
        simp [st, sg, sz]
      have vp := side_v P (W : Int) rfl a4
      have s1 : p.star < 0 := P.st.2 rfl
      have g1 : p.sign < 0 := P.sg.2 rfl
      unfold parse
      rw [if_neg (by omega), kd, if_neg (by omega), ff]
      simp only
      have se : sense s 5 W W [p] = (0, 0) := by
        unfold sense
        simp only [badSide, badEnd, badStar, badSign, vp]
        rw [if_neg (by omega), if_neg (by omega), if_pos s1]
        simp [g1]
      have tr : turns s [p] 0 (0, 0) = (0, 0) := by simp only [turns]; rw [if_pos ⟨s1, g1⟩]
      rw [vp, se, tr]
      simp; omega
    · rw [if_neg c5, tl_eq, tl_eq, itoa_nat, itoa_nat]
      have l1 := st_len (decide (u = 1 ∧ k = 3))
      have l2 := st_len (decide (u = 2 ∧ k = 3))
      have l3 := sg_len u x 1 (by omega) (by omega)
      have l4 := sg_len u x 2 (by omega) (by omega)
      obtain ⟨p, t1, P⟩ := takes_side [letter k] W (decide (u = 1 ∧ k = 3)) (oo u x 1) (44 :: (Lib.decDigits H ++ (st (decide (u = 2 ∧ k = 3)) ++ sg (oo u x 2)))) true (.inr ⟨_, rfl⟩) (oo_byte _ _ _) (by simp)
      obtain ⟨q, t2, Q⟩ := takes_side ([letter k] ++ (Lib.decDigits W ++ (st (decide (u = 1 ∧ k = 3)) ++ (sg (oo u x 1) ++ [44])))) H (decide (u = 2 ∧ k = 3)) (oo u x 2) [] true (.inl rfl) (oo_byte _ _ _) (by simp)
      have nx := nxt_S ([letter k] ++ (Lib.decDigits W ++ (st (decide (u = 1 ∧ k = 3)) ++ sg (oo u x 1)))) (44 :: (Lib.decDigits H ++ (st (decide (u = 2 ∧ k = 3)) ++ sg (oo u x 2)))) [44]
      have tx : letter k :: (Lib.decDigits W ++ (st (decide (u = 1 ∧ k = 3)) ++ sg (oo u x 1) ++ (44 :: (Lib.decDigits H ++ (st (decide (u = 2 ∧ k = 3)) ++ sg (oo u x 2)))))) = [letter k] ++ (Lib.decDigits W ++ (st (decide (u = 1 ∧ k = 3)) ++ (sg (oo u x 1) ++ (44 :: (Lib.decDigits H ++ (st (decide (u = 2 ∧ k = 3)) ++ sg (oo u x 2))))))) := by simp
      have tx2 : ([letter k] ++ (Lib.decDigits W ++ (st (decide (u = 1 ∧ k = 3)) ++ (sg (oo u x 1) ++ [44])))) ++ (Lib.decDigits H ++ (st (decide (u = 2 ∧ k = 3)) ++ (sg (oo u x 2) ++ []))) = [letter k] ++ (Lib.decDigits W ++ (st (decide (u = 1 ∧ k = 3)) ++ (sg (oo u x 1) ++ (44 :: (Lib.decDigits H ++ (st (decide (u = 2 ∧ k = 3)) ++ sg (oo u x 2))))))) := by simp
      have tx3 : ([letter k] ++ (Lib.decDigits W ++ (st (decide (u = 1 ∧ k = 3)) ++ sg (oo u x 1)))) ++ (44 :: (Lib.decDigits H ++ (st (decide (u = 2 ∧ k = 3)) ++ sg (oo u x 2)))) = [letter k] ++ (Lib.decDigits W ++ (st (decide (u = 1 ∧ k = 3)) ++ (sg (oo u x 1) ++ (44 :: (Lib.decDigits H ++ (st (decide (u = 2 ∧ k = 3)) ++ sg (oo u x 2))))))) := by simp
      rw [tx]
      rw [tx2] at t2 Q
      rw [tx3] at nx
      have kd : kindOf (S ([letter k] ++ (Lib.decDigits W ++ (st (decide (u = 1 ∧ k = 3)) ++ (sg (oo u x 1) ++ (44 :: (Lib.decDigits H ++ (st (decide (u = 2 ∧ k = 3)) ++ sg (oo u x 2))))))))) = k := kind_letter k a1 a2 _
      have sz : (S ([letter k] ++ (Lib.decDigits W ++ (st (decide (u = 1 ∧ k = 3)) ++ (sg (oo u x 1) ++ (44 :: (Lib.decDigits H ++ (st (decide (u = 2 ∧ k = 3)) ++ sg (oo u x 2))))))))).size = 1 + (Lib.decDigits W).length + (st (decide (u = 1 ∧ k = 3))).length + (sg (oo u x 1)).length + 1 + (Lib.decDigits H).length + (st (decide (u = 2 ∧ k = 3))).length + (sg (oo u x 2)).length := by
        rw [S_size]; simp only [List.length_append, List.length_cons, List.length_nil]; omega
      have n1 : ([letter k] ++ (Lib.decDigits W ++ (st (decide (u = 1 ∧ k = 3)) ++ sg (oo u x 1)))).length = 1 + (Lib.decDigits W).length + (st (decide (u = 1 ∧ k = 3))).length + (sg (oo u x 1)).length := by simp only [List.length_append, List.length_cons, List.length_nil]; omega
      have n2 : ([letter k] ++ (Lib.decDigits W ++ (st (decide (u = 1 ∧ k = 3)) ++ (sg (oo u x 1) ++ [44])))).length = 1 + (Lib.decDigits W).length + (st (decide (u = 1 ∧ k = 3))).length + (sg (oo u x 1)).length + 1 := by simp only [List.length_append, List.length_cons, List.length_nil]; omega
      rw [n1] at nx
      rw [n2] at t2
      rw [show [letter k].length = 1 from rfl] at t1
      generalize S ([letter k] ++ (Lib.decDigits W ++ (st (decide (u = 1 ∧ k = 3)) ++ (sg (oo u x 1) ++ (44 :: (Lib.decDigits H ++ (st (decide (u = 2 ∧ k = 3)) ++ sg (oo u x 2)))))))) = s at t1 t2 P Q kd sz nx
      have k5 : (k != 5) = true := by simpa using c5
      refine parse_two s k W H u x hO' (by omega) kd c5 p q s.size ?_ W H rfl rfl P Q
      unfold form
      rw [if_neg (by omega)]
      simp only [k5, t1, nx, t2]
      simp [sz]
end Go.Proofs.YtmcidodpnhkdfaaDoor.PrintPlain
