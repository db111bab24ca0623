/- What topo.Parse answers, as a law of bytes and numbers. -/
import Derived.Test.YtmcidodpnhkdfaaDoorWords
namespace Go.Proofs.YtmcidodpnhkdfaaDoor.ParseSpec
open Go.RowKit Go.Proofs.YtmcidodpnhkdfaaDoorW.PrintWords
set_option linter.unusedVariables false

/-- Is there a digit at a place? -/
def isd (s : ByteArray) (i : Nat) : Bool := decide (i < s.size) && (decide (48 ≤ bt s i) && decide (bt s i ≤ 57))
def dgf (s : ByteArray) : Nat → Nat → Nat
  | 0, i => i
  | f + 1, i => if isd s i = true then dgf s f (i + 1) else i
/-- The end of the digits that begin at a place. -/
def dg (s : ByteArray) (i : Nat) : Nat := dgf s (s.size - i) i
theorem isd_lt {s : ByteArray} {i : Nat} (h : isd s i = true) : i < s.size := by
  unfold isd at h
  simp only [Bool.and_eq_true, decide_eq_true_eq] at h
  exact h.1
theorem dg_yes {s : ByteArray} {i : Nat} (h : isd s i = true) : dg s i = dg s (i + 1) := by
  have hl := isd_lt h
  unfold dg
  obtain ⟨f, hf⟩ : ∃ f, s.size - i = f + 1 := ⟨s.size - i - 1, by omega⟩
  rw [hf, show s.size - (i + 1) = f by omega]
  simp only [dgf, h, if_true]
theorem dg_no {s : ByteArray} {i : Nat} (h : isd s i = false) : dg s i = i := by
  unfold dg
  cases s.size - i with
  | zero => rfl
  | succ f => simp [dgf, h]
theorem dgf_ge (s : ByteArray) : ∀ f i, i ≤ dgf s f i
  | 0, i => Nat.le_refl _
  | f + 1, i => by
    simp only [dgf]
    split
    · exact Nat.le_trans (Nat.le_succ i) (dgf_ge s f (i + 1))
    · exact Nat.le_refl _
theorem dgf_le (s : ByteArray) : ∀ f i, i + f ≤ s.size → dgf s f i ≤ s.size
  | 0, i, h => by simp only [dgf]; omega
  | f + 1, i, h => by
    simp only [dgf]
    split
    · exact dgf_le s f (i + 1) (by omega)
    · omega
theorem dg_ge (s : ByteArray) (i : Nat) : i ≤ dg s i := dgf_ge s _ i
theorem dg_le {s : ByteArray} {i : Nat} (h : i ≤ s.size) : dg s i ≤ s.size := dgf_le s _ i (by omega)

/-- A part of a text: its number's place and end, a star's and a sign's place (-1: none), the shift's place and end. -/
structure Pt where
  at_ : Nat
  en : Nat
  star : Int
  sign : Int
  fr : Nat
  to_ : Nat
deriving DecidableEq

/-- Is one of these bytes the next one? -/
def nxt (s : ByteArray) (i : Nat) (of : List Int) : Bool := decide (i < s.size) && of.contains (bt s i)
/-- The place behind a byte that may be there. -/
def behind (s : ByteArray) (i : Nat) (tail : Bool) : Nat := if (tail && nxt s i [42]) = true then i + 1 else i
def starAt (s : ByteArray) (i : Nat) (tail : Bool) : Int := if (tail && nxt s i [42]) = true then (i : Int) else -1
/-- A side: the part, the place behind it, the error. -/
def takes (s : ByteArray) (i : Nat) (tail : Bool) : Pt × Nat × Int :=
  let e := dg s i
  if e = i then (⟨i, i, -1, -1, 0, 0⟩, i, 41)
  else
    let a := behind s e tail
    if (tail && nxt s a [43, 45]) = true then
      let f := dg s (a + 1)
      if f = a + 1 then (⟨i, e, starAt s e tail, a, a + 1, a + 1⟩, a + 1, 43)
      else (⟨i, e, starAt s e tail, a, a + 1, f⟩, f, 0)
    else (⟨i, e, starAt s e tail, -1, 0, 0⟩, a, 0)
/-- A whole text behind its letter: the parts, the place, the error. -/
def form (s : ByteArray) (k : Int) : List Pt × Nat × Int :=
  if s.size = 1 ∧ k ≤ 2 then ([], 1, 0)
  else
    let p := takes s 1 (k != 5)
    if p.2.2 ≠ 0 then ([], p.2.1, p.2.2)
    else if (k != 5 && nxt s p.2.1 [44]) = true then
      let q := takes s (p.2.1 + 1) true
      if q.2.2 ≠ 0 then ([p.1], q.2.1, q.2.2)
      else if q.2.1 < s.size then ([p.1, q.1], q.2.1, 45) else ([p.1, q.1], q.2.1, 0)
    else if p.2.1 < s.size then ([p.1], p.2.1, 45) else ([p.1], p.2.1, 0)
/-- One digit more of a number, as far as it is of interest. -/
def stepv (n b : Int) : Int := if 131072 < 10 * n + (b - 48) % 256 then 131072 else 10 * n + (b - 48) % 256
def valf (s : ByteArray) : Nat → Nat → Int → Int
  | 0, _, n => n
  | f + 1, i, n => valf s f (i + 1) (stepv n (bt s i))
/-- A number's worth, as far as it is of interest. -/
def val (s : ByteArray) (i j : Nat) : Int := valf s (j - i) i 0
theorem stepv_range (n b : Int) (h0 : 0 ≤ n) : 0 ≤ stepv n b ∧ stepv n b ≤ 131072 := by
  unfold stepv
  split <;> omega
theorem valf_top (s : ByteArray) : ∀ f i n, n ≤ 131072 → valf s f i n ≤ 131072
  | 0, _, n, h => h
  | f + 1, i, n, h => valf_top s f (i + 1) _ (by unfold stepv; split <;> omega)
theorem val_top (s : ByteArray) (i j : Nat) : val s i j ≤ 131072 := valf_top s _ _ _ (by omega)

/-- The kind of a letter (0: none). -/
def kindB (b : Int) : Int :=
  if b = 80 ∨ b = 112 then 1 else if b = 84 ∨ b = 116 then 2 else if b = 75 ∨ b = 107 then 3 else if b = 67 ∨ b = 99 then 4 else if b = 83 ∨ b = 115 then 5 else 0
def kindOf (s : ByteArray) : Int := if s.size = 0 then 0 else kindB (bt s 0)
/-- Of the parts that have a star, at most one, and of a Klein bottle. -/
def badStar (k : Int) : List Pt → Int → Option Int
  | [], _ => none
  | p :: ps, n => if p.star < 0 then badStar k ps n else if k ≠ 3 ∨ n + 1 > 1 then some p.star else badStar k ps (n + 1)
def stars : List Pt → Int
  | [] => 0
  | p :: ps => (if p.star < 0 then 0 else 1) + stars ps
/-- Is a shift wrong? (n: how many signs ahead) -/
def wrong (s : ByteArray) (k w h : Int) (p : Pt) (n : Int) : Bool :=
  (decide (n + 1 > 1) || decide (val s p.at_ p.en ≤ val s p.fr p.to_)) ||
    (if k = 2 then decide (val s p.fr p.to_ = 0) || (decide (w = 0) || decide (h = 0)) else if k = 3 then decide (p.star < 0) else true)
def badSign (s : ByteArray) (k w h : Int) : List Pt → Int → Option Int
  | [], _ => none
  | p :: ps, n => if p.sign < 0 then badSign s k w h ps n else if wrong s k w h p n = true then some p.sign else badSign s k w h ps (n + 1)
def badSide (s : ByteArray) : List Pt → Option Int
  | [] => none
  | p :: ps => if val s p.at_ p.en > 65536 then some p.at_ else badSide s ps
def badEnd (s : ByteArray) (k : Int) : List Pt → Option Int
  | [] => none
  | p :: ps => if 3 ≤ k ∧ val s p.at_ p.en = 0 then some p.at_ else badEnd s k ps
/-- What is wrong in a text whose form is right. -/
def sense (s : ByteArray) (k w h : Int) (ps : List Pt) : Int × Int :=
  match badSide s ps with
  | some a => (a, 41)
  | none => match badEnd s k ps with
    | some a => (a, 42)
    | none => match badStar k ps 0 with
      | some a => (a, 44)
      | none => if k = 3 ∧ stars ps = 0 then (s.size, 44) else match badSign s k w h ps 0 with
        | some a => (a, 43)
        | none => (0, 0)
/-- The turn and the shift that the parts say (i: how many parts ahead). -/
def turns (s : ByteArray) : List Pt → Int → Int × Int → Int × Int
  | [], _, ts => ts
  | p :: ps, i, ts => turns s ps (i + 1) (if p.star < 0 ∧ p.sign < 0 then ts else (1 + i, if 0 ≤ p.sign then (if bt s p.sign = 45 then -(val s p.fr p.to_) else val s p.fr p.to_) else ts.2))
/-- The topology (kind, width, height, turn, shift), the place, the error. -/
def parse (s : ByteArray) : Int × Int × Int × Int × Int × Int × Int :=
  if 1048576 < s.size then (0, 0, 0, 0, 0, 0, 3)
  else if kindOf s = 0 then (0, 0, 0, 0, 0, 0, 40)
  else
    let f := form s (kindOf s)
    if f.2.2 ≠ 0 then (0, 0, 0, 0, 0, f.2.1, f.2.2)
    else match f.1 with
      | [] => (kindOf s, 0, 0, 0, 0, 0, 0)
      | p :: ps =>
        let w := val s p.at_ p.en
        let h := match ps with | [] => w | q :: _ => val s q.at_ q.en
        let e := sense s (kindOf s) w h (p :: ps)
        if e.2 ≠ 0 then (0, 0, 0, 0, 0, e.1, e.2)
        else
          let t := turns s (p :: ps) 0 (0, 0)
          (kindOf s, w, h, t.1, t.2, 0, 0)
end Go.Proofs.YtmcidodpnhkdfaaDoor.ParseSpec
