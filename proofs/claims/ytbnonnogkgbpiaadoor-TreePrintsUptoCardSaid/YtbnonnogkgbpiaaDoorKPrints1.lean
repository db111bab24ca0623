/- What the row of this claim leans on, part 1. -/
import Derived.Test.YtbnonnogkgbpiaaDoorRows
import Derived.Test.YtbnonnogkgbpiaaDoorProg
import Derived.Below
import Derived.Deep.Draws
import Derived.Deep.AppendLies
import Derived.Maps.AppendAt
import Derived.OwnWalk
import Derived.Laws.BytesArg
import Derived.Laws.MakeOwn
import Derived.Laws.OwnMore
import Derived.Deep.OwnRows
import Derived.Tactics
import Derived.Lib.ConvBytes
import Derived.Laws.Slices
import Derived.WalkKit
import Derived.KernelRfl
import Derived.RowKit3
import Derived.Deep.LoopGhost
import Derived.Deep.QuietTactic
import Derived.BigQuiet
import Derived.WideLaws
import Derived.Deep.DeepCutAuto
import Derived.Deep.CutBlock
import Derived.Deep.RegionHeld3
import Derived.Laws.Rows
import Derived.Lib.AppendStr
import Derived.ArgAppend
import Derived.Laws.IdiomCopy
import Derived.RowKit
import Derived.OrdersHeld
import Derived.Laws.BitsLemmas
import Derived.Maps.OwnSet
import Derived.Maps.OwnIn
import Derived.DeepKeys5
import Derived.Deep.Light
import Derived.Lib.OthersKept
import Derived.Lib.BufferKept
import Derived.Laws.StructEq
import Derived.Laws.EntriesVeiled
import Derived.Maps.RangeWalk
import Derived.Shelf.Strings.Builder1
import Derived.Shelf.Strconv.Itoa0
import Derived.Shelf.Strconv.Itoa1
import Derived.Shelf.LaysM
import Derived.Shelf.Strconv.Itoa2
import Derived.Shelf.Strconv.Itoa3
import Derived.Shelf.Strings.BuilderCap
import Derived.Shelf.Slices.Equal
import Derived.Laws.Externs
import Derived.Lib.OwnKind
import Derived.Lib.AppendIntMem
import Derived.Lib.SmallJoins
import Derived.Lib.Hide
import Derived.Laws.CopyRow
import Derived.Laws.AppendOwn
import Derived.Deep.SlicePairs
import Derived.Deep.Slices
import Derived.Deep.Fields
import Derived.ChangeSlices
import Derived.SizedLaws
import Derived.ProofKit
import Derived.OpenShut
import Derived.Test.YtbnonnogkgbpiaaDoorCards
import Derived.Test.YtbnonnogkgbpiaaDoorTie
import Derived.LaidMore
import Derived.Stop.Joined
import Derived.Stop.LaidErr
import Derived.SevenTiedAt
import Derived.Lib.LaidTab
import Derived.MakeChecks
import Derived.Deep.DeepHandedRow
import Derived.Deep.DeepWitnessRowRef
import Derived.JoinedCond
import Derived.ShutString
import Derived.ChangeOld
section
set_option linter.unusedVariables false
set_option linter.unusedSimpArgs false
namespace Go.Proofs.YtbnonnogkgbpiaaDoorW.PrintWords
open Go.RowKit
structure Aside0 (p : Prop) : Prop where mk :: (out : p)
structure Drawn0 (w w' : World) : Prop where mk :: (out : ∃ n, w' = w.drewN n)
theorem Drawn0.refl (w : World) : Drawn0 w w := ⟨⟨0, rfl⟩⟩
theorem Drawn0.step {w w' : World} (h : Drawn0 w w') (n : Nat) : Drawn0 w (w'.drewN n) := by
  obtain ⟨m, rfl⟩ := h
  exact ⟨⟨m + n, World.drewN_drewN ..⟩⟩
theorem Drawn0.grown {w w' : World} (h : Drawn0 w w') : Grown w w' := by
  obtain ⟨n, rfl⟩ := h
  induction n with
  | zero => exact Grown.refl _
  | succ n ih => rw [← World.drew_drewN]; exact Grown.drew ih
theorem Drawn0.below {w w' : World} (h : Drawn0 w w') : Below w.heap.size w w' := by
  obtain ⟨n, rfl⟩ := h
  induction n with
  | zero => exact Below.refl _ _
  | succ n ih => rw [← World.drew_drewN]; exact ih.drew
def rd (xs : List Int) (i : Int) : Int := xs.getD i.toNat 0
def nums (k : IntKind) (xs : List Int) : List Value := xs.map fun x => .int k x
theorem below_alloc {w W : World} (h : Below w.heap.size w W) (o : Obj) : Below w.heap.size w (W.alloc o) := h.alloc h.size o
theorem below_drew {B : Nat} {w W : World} (h : Below B w W) : Below B w W.drew := ⟨h.os, h.tape, h.output, h.size, h.block⟩
theorem pw_below_drewN {B : Nat} {w W : World} (h : Below B w W) (n : Nat) : Below B w (W.drewN n) := ⟨h.os, h.tape, h.output, h.size, h.block⟩
theorem below_then {B : Nat} {w w1 w2 : World} (h : Below B w w1) (hB : B ≤ w1.heap.size) (k : Below w1.heap.size w1 w2) : Below B w w2 :=
  h.trans ⟨k.os, k.tape, k.output, k.size, fun i hi => k.block i (Nat.lt_of_lt_of_le hi hB)⟩
theorem grown_of_below {w w1 : World} (h : Below w.heap.size w w1) (row : Option Nat) : w.grownBy w1 row := ⟨h.os, h.tape, h.output, h.size, fun i hi _ => h.block i hi⟩
theorem pw_cell_below {w w1 : World} (h : Below w.heap.size w w1) {a : Addr} {v : Value} (hc : w.cell? a = some v) : w1.cell? a = some v := (h.cell (World.block_lt_of_cell? w a hc)).trans hc
theorem add_plain (g j : Nat) : (⟨g, 0, none⟩ : Addr).add j = ⟨g, j, none⟩ := by unfold Addr.add; split <;> simp_all
def ReadsInt (w : World) (k : IntKind) (A : Option Addr) (n : Nat) (xs : List Int) : Prop :=
  xs.length = n ∧ n ≤ 9223372036854775807 ∧ (0 < n → ∃ ad, A = some ad ∧ ∀ j, j < n → w.cell? (ad.add j) = some (.int k (xs.getD j 0)))
theorem ReadsInt.at_ {w : World} {k : IntKind} {A : Option Addr} {n : Nat} {xs : List Int} (h : ReadsInt w k A n xs) (i : Int) (h0 : 0 ≤ i) (h1 : i < n) : ∃ ad, A = some ad ∧ w.cell? (ad.add i.toNat) = some (.int k (rd xs i)) := by
  obtain ⟨ad, e, hc⟩ := h.2.2 (by omega)
  exact ⟨ad, e, hc _ (by omega)⟩
theorem ReadsInt.below {w w1 : World} {k : IntKind} {A : Option Addr} {n : Nat} {xs : List Int} (h : ReadsInt w k A n xs) (hb : Below w.heap.size w w1) : ReadsInt w1 k A n xs :=
  ⟨h.1, h.2.1, fun hn => by
    obtain ⟨ad, e, hc⟩ := h.2.2 hn
    exact ⟨ad, e, fun j hj => pw_cell_below hb (hc j hj)⟩⟩
theorem own_nil (W : World) (base : Nat) (e : TypeId) (size : Nat) : W.ownsRow base e size (.slice none 0 0) 0 [] := ⟨by simp, .inl ⟨rfl, rfl⟩⟩
theorem own_base {w : World} {base : Nat} {e : TypeId} {size n : Nat} {v : Value} {xs : List Value} (h : w.ownsRow base e size v n xs) (k : Nat) (hk : v.ownBlock = some k) : base ≤ k := by
  rcases h.2 with ⟨rfl, _⟩ | ⟨g, cap, cur, rfl, hb, _⟩
  · simp [Value.ownBlock] at hk
  · have : g = k := by simpa [Value.ownBlock] using hk
    omega
theorem own_lt {w : World} {base : Nat} {e : TypeId} {size n : Nat} {v : Value} {xs : List Value} (h : w.ownsRow base e size v n xs) (k : Nat) (hk : v.ownBlock = some k) : k < w.heap.size := by
  rcases h.2 with ⟨rfl, _⟩ | ⟨g, cap, cur, rfl, hb, hh, _⟩
  · simp [Value.ownBlock] at hk
  · have : g = k := by simpa [Value.ownBlock] using hk
    subst this
    exact (Array.getElem?_eq_some_iff.1 hh).1
theorem pw_own_below {w w1 : World} {base : Nat} {e : TypeId} {size n : Nat} {v : Value} {xs : List Value} (h : w.ownsRow base e size v n xs) (hb : Below w.heap.size w w1) : w1.ownsRow base e size v n xs :=
  h.kept (grown_of_below hb none) (by cases v.ownBlock <;> simp)
theorem own_other {w w1 : World} {base : Nat} {e : TypeId} {size n : Nat} {v : Value} {xs : List Value} (h : w.ownsRow base e size v n xs) {row : Option Nat} (hg : w.grownBy w1 row) (hne : v.ownBlock = none ∨ v.ownBlock ≠ row) : w1.ownsRow base e size v n xs := h.kept hg hne
theorem own_type_ne {w : World} {b b' : Nat} {e e' : TypeId} {s s' n n' : Nat} {v v' : Value} {xs xs' : List Value} (h : w.ownsRow b e s v n xs) (h' : w.ownsRow b' e' s' v' n' xs') (hne : e ≠ e') : v.ownBlock = none ∨ v.ownBlock ≠ v'.ownBlock := by
  rcases h.2 with ⟨rfl, _⟩ | ⟨g, cap, cur, rfl, _, hh, _⟩
  · exact .inl rfl
  · refine .inr fun hk => ?_
    rcases h'.2 with ⟨rfl, _⟩ | ⟨g', cap', cur', rfl, _, hh', _⟩
    · simp [Value.ownBlock] at hk
    · have : g = g' := by simpa [Value.ownBlock] using hk
      subst this
      rw [hh] at hh'
      injection hh' with hh'
      injection hh' with _ ht
      exact hne ht
theorem own_reads {w : World} {base n : Nat} {e : TypeId} {k : IntKind} {v : Value} {xs : List Int} (h : w.ownsRow base e 1 v n (nums k xs)) : ∃ A c, v = .slice A n c ∧ ReadsInt w k A n xs := by
  have hl : xs.length = n := by have := h.1; simp [nums] at this; exact this
  rcases Nat.eq_zero_or_pos n with h0 | h0
  · rcases h.2 with ⟨rfl, rfl⟩ | ⟨g, cap, cur, rfl, _⟩
    · exact ⟨none, 0, rfl, hl, by omega, fun hp => absurd hp (by omega)⟩
    · exact ⟨_, cap, rfl, hl, by omega, fun hp => absurd hp (by omega)⟩
  · obtain ⟨g, cap, rfl, _, _⟩ := h.form h0
    have hm : n ≤ 9223372036854775807 := by
      rcases h.2 with ⟨_, h1⟩ | ⟨g', cap', cur, he, _, _, h1, h2, _⟩
      · omega
      · simp only [maxLen] at h2
        omega
    refine ⟨_, cap, rfl, hl, hm, fun _ => ⟨_, rfl, fun j hj => h.cells (g := g) rfl j _ ?_⟩⟩
    simp [nums, List.getElem?_eq_getElem (show j < xs.length by omega), List.getD_eq_getElem?_getD]
theorem own_slice {w : World} {base n : Nat} {e : TypeId} {size : Nat} {v : Value} {xs : List Value} (h : w.ownsRow base e size v n xs) : ∃ A c, v = .slice A n c := by
  rcases h.2 with ⟨rfl, rfl⟩ | ⟨g, cap, cur, rfl, _⟩
  · exact ⟨none, 0, rfl⟩
  · exact ⟨_, cap, rfl⟩
section
variable {P : Program} {ops : Array Oper} {rest : List Oper} {o : Oper} {a : Act} {Q : Exit → Act → World → Prop}
end
section
variable {P : Program}
theorem print_make (t e : TypeId) (k : IntKind) (bytes : Nat) (ht : P.underlying t = some (.slice e)) (hinfo : (P.info? e).map (fun i => (i.zero, i.size, i.bytes)) = some (some (.int k 0), 1, bytes)) (hb0 : 0 < bytes)
    (m : Nat) (hn : m * bytes ≤ 281474976710656) :
    ∀ W : World, (Instr.makeSlice t (.int .i64 (m : Int)) (.int .i64 (m : Int))).run P W = .ok (.slice (some ⟨W.heap.size, 0, none⟩) m m) (W.alloc (.cells (madeCells #[.int k 0] m) e)) := by
  intro W
  have hm : m ≤ 281474976710656 := Nat.le_trans (Nat.le_mul_of_pos_right _ hb0) hn
  exact run_make_row' t e (.int k 0) bytes ht hinfo rfl .i64 .i64 m (by rw [Nat.mul_comm]; exact hn) (by omega) W
end
theorem own_made (W : World) (base : Nat) (e : TypeId) (k : IntKind) (m : Nat) (hb : base ≤ W.heap.size) (hm : m ≤ 9223372036854775807) :
    (W.alloc (.cells (madeCells #[.int k 0] m) e)).ownsRow base e 1 (.slice (some ⟨W.heap.size, 0, none⟩) m m) m (nums k (List.replicate m 0)) := by
  have h := World.ownsRow_lit (base := base) (e := e) (size := 1) W (madeCells #[.int k 0] m) m hb (by simpa [maxLen] using hm) (by simp [size_madeCells])
  have hl : (madeCells #[Value.int k 0] m).toList = nums k (List.replicate m 0) := by
    apply List.ext_getElem
    · simp [nums, madeCells]
    · intro i h1 h2
      simp [nums, madeCells, Nat.mod_one]
  rwa [hl] at h
theorem own_lit (W : World) (base : Nat) (e : TypeId) (k : IntKind) (xs : List Int) (hb : base ≤ W.heap.size) (hm : xs.length ≤ 9223372036854775807) :
    (W.alloc (.cells (nums k xs).toArray e)).ownsRow base e 1 (.slice (some ⟨W.heap.size, 0, none⟩) xs.length xs.length) xs.length (nums k xs) := by
  have h := World.ownsRow_lit (base := base) (e := e) (size := 1) W (nums k xs).toArray xs.length hb (by simpa [maxLen] using hm) (by simp [nums])
  simpa using h
theorem own_at {W : World} {base g n cap : Nat} {e : TypeId} {k : IntKind} {xs : List Int} (h : W.ownsRow base e 1 (.slice (some ⟨g, 0, none⟩) n cap) n (nums k xs)) (i : Int) (h0 : 0 ≤ i) (h1 : i < n) :
    W.cell? ⟨g, i.toNat, none⟩ = some (.int k (rd xs i)) ∧ W.frozen? ⟨g, i.toNat, none⟩ = false := by
  have hl : xs.length = n := by have := h.1; simp [nums] at this; exact this
  constructor
  · have hc := h.cells (g := g) rfl i.toNat (.int k (rd xs i)) (by simp [nums, rd, List.getElem?_eq_getElem (show i.toNat < xs.length by omega), List.getD_eq_getElem?_getD])
    rwa [add_plain] at hc
  · rcases h.2 with ⟨h', _⟩ | ⟨g', cap', cur, h', _, hh, _⟩
    · cases h'
    · have : g = g' := by injection h' with h'; injection h' with h'; injection h' with h'
      subst this
      simp [World.frozen?, hh]
theorem own_store {W : World} {base g n cap : Nat} {e : TypeId} {k : IntKind} {xs : List Int} (h : W.ownsRow base e 1 (.slice (some ⟨g, 0, none⟩) n cap) n (nums k xs)) (i x : Int) :
    (W.setCell ⟨g, i.toNat, none⟩ (.int k x)).ownsRow base e 1 (.slice (some ⟨g, 0, none⟩) n cap) n (nums k (xs.set i.toNat x)) ∧ W.grownBy (W.setCell ⟨g, i.toNat, none⟩ (.int k x)) (some g) := by
  have hs := h.stored i.toNat (.int k x)
  have he : (nums k xs).set i.toNat (.int k x) = nums k (xs.set i.toNat x) := by simp [nums, List.map_set]
  rwa [he] at hs
section
variable {P : Program} {ops : Array Oper} {rest : List Oper} {o : Oper} {a : Act} {Q : Exit → Act → World → Prop}
theorem print_append_row {w0 W : World} (base : Nat) (hgd : o.guard = none) (s x : Operand) (t e : TypeId) (k : IntKind) (bytes : Nat)
    (ho : o.op = .call { callee := .builtin .append, args := #[s, x], argTypes := #[t, t] })
    (ht : P.underlying t = some (.slice e)) (hinfo : (P.info? e).map (fun i => (i.zero, i.size, i.bytes)) = some (some (.int k 0), 1, bytes)) (hb0 : 0 < bytes)
    (v : Value) (xs ys : List Int) (A : Option Addr) (m c : Nat) (hs : a.eval s = v) (hx : a.eval x = .slice A m c)
    (HO : W.ownsRow base e 1 v xs.length (nums k xs)) (HR : ReadsInt W k A m ys) (HB : Below base w0 W) (hbase : base ≤ W.heap.size) (hl : (xs.length + m) * bytes ≤ 140737488355328)
    (h : ∀ v1 w1, w1.ownsRow base e 1 v1 (xs ++ ys).length (nums k (xs ++ ys)) → Below base w0 w1 → W.grownBy w1 v.ownBlock → (v1.ownBlock = v.ownBlock ∨ ∃ b, v1.ownBlock = some b ∧ W.heap.size ≤ b) → wpList P ops Q rest (a.put o.dst v1) w1) :
    wpList P ops Q (o :: rest) a W := by
  obtain ⟨i0, hi, hzz⟩ := Option.map_eq_some_iff.1 hinfo
  simp only [Prod.mk.injEq] at hzz
  obtain ⟨hz0, hz1, hz2⟩ := hzz
  have hm : ys.length = m := HR.1
  have hlen : xs.length + m ≤ 140737488355328 := Nat.le_trans (Nat.le_mul_of_pos_right _ hb0) hl
  have hrun : ∃ v1 w1, (Builtin.append_ #[t, t] o.type #[v, .slice A m c]).run P W = .ok v1 w1 ∧ w1.ownsRow base e 1 v1 (xs ++ ys).length (nums k (xs ++ ys)) ∧ W.grownBy w1 v.ownBlock ∧ (v1.ownBlock = v.ownBlock ∨ v1.ownBlock = some W.heap.size) := by
    rcases A with _ | ad
    · have h0 : m = 0 := by
        rcases Nat.eq_zero_or_pos m with h0 | h0
        · exact h0
        · obtain ⟨ad, h, _⟩ := HR.2.2 h0
          cases h
      subst h0
      obtain rfl : ys = [] := List.eq_nil_of_length_eq_zero hm
      refine ⟨v, W, ?_, by simpa using HO, World.grownBy.refl W _, .inl rfl⟩
      rcases HO.2 with ⟨rfl, hn⟩ | ⟨g, cap, cur, rfl, _, _, hnc, _⟩
      · simp [Builtin.append_, run_underlying ht, sizeOf, typeInfo, hi, Builtin.lenOf, Builtin.firstCells]
      · simp [Builtin.append_, run_underlying ht, sizeOf, typeInfo, hi, Builtin.lenOf, Builtin.firstCells, hnc, storeCells]
    · have hcells : ∀ j u, (nums k ys)[j]? = some u → W.cell? (ad.add j) = some u := by
        intro j u hu
        have hj : j < ys.length := by
          rcases Nat.lt_or_ge j ys.length with h | h
          · exact h
          · simp [nums, List.getElem?_eq_none h] at hu
        obtain ⟨ad', h', hc⟩ := HR.2.2 (by omega)
        injection h' with h'
        subst h'
        have := hc j (by omega)
        simp [nums, List.getElem?_eq_getElem hj] at hu
        subst hu
        rw [this]
        simp [List.getD_eq_getElem?_getD, List.getElem?_eq_getElem hj]
      obtain ⟨v1, w1, hr, h2, h3, _, h5⟩ := run_append_own_at (P := P) W base t o.type e i0 (.int k 0) 1 bytes ht hi hz0 hz1 hz2 rfl (by omega) v xs.length (nums k xs) HO ad m c (nums k ys) (by simp [nums, hm]) hcells
        (by intro u hu; simp only [nums, List.mem_map] at hu; obtain ⟨q, _, rfl⟩ := hu; rfl) (by simp only [maxLen]; omega) hl hbase
      exact ⟨v1, w1, hr, by simpa [nums, hm] using h2, h3, h5⟩
  obtain ⟨v1, w1, hr, hown, hg, hat⟩ := hrun
  refine wpList_plain hgd fun K hK => ?_
  unfold Oper.wp execOp
  simp only [ho, resolve, invoke, builtin, Sem.run_bind, Sem.run_pure, Result.andThen_ok, List.map_toArray, List.map_cons, List.map_nil, hs, hx, hr]
  refine hK _ _ (h v1 w1 hown (HB.grown hg hbase (own_base HO)) hg ?_)
  rcases hat with hat | hat
  · exact .inl hat
  · exact .inr ⟨_, hat, Nat.le_refl _⟩
end
theorem ReadsInt.take_ {w : World} {k : IntKind} {A : Option Addr} {n : Nat} {xs : List Int} (h : ReadsInt w k A n xs) (i : Nat) (hi : i ≤ n) : ReadsInt w k A i (xs.take i) := by
  refine ⟨by rw [List.length_take, h.1]; omega, by have := h.2.1; omega, fun hp => ?_⟩
  obtain ⟨ad, e, hc⟩ := h.2.2 (by omega)
  refine ⟨ad, e, fun j hj => ?_⟩
  rw [hc j (by omega)]
  simp [List.getD_eq_getElem?_getD, hj]
def LeO {α : Type} (a b : Option α) : Prop := ∀ r, a = some r → b = some r
theorem LeO.refl {α : Type} (a : Option α) : LeO a a := fun _ h => h
theorem LeO.none {α : Type} (b : Option α) : LeO Option.none b := fun _ h => by cases h
theorem LeO.trans {α : Type} {a b c : Option α} (h : LeO a b) (k : LeO b c) : LeO a c := fun r hr => k r (h r hr)
theorem LeO.ite {α : Type} {c : Prop} [Decidable c] {a a' b b' : Option α} (h : LeO a a') (k : LeO b b') : LeO (if c then a else b) (if c then a' else b') := by
  split
  · exact h
  · exact k
theorem LeO.bind {α β : Type} {a a' : Option α} {f f' : α → Option β} (h : LeO a a') (k : ∀ x, LeO (f x) (f' x)) : LeO (a.bind f) (a'.bind f') := by
  intro r hr
  obtain ⟨x, hx, hf⟩ := Option.bind_eq_some_iff.1 hr
  exact Option.bind_eq_some_iff.2 ⟨x, h x hx, k x r hf⟩
theorem LeO.map {α β : Type} {a a' : Option α} (f : α → β) (h : LeO a a') : LeO (a.map f) (a'.map f) := by
  intro r hr
  obtain ⟨x, hx, hf⟩ := Option.map_eq_some_iff.1 hr
  exact Option.map_eq_some_iff.2 ⟨x, h x hx, hf⟩
theorem more_rounds {α : Type} {g : Nat → Option α} (h : ∀ k, LeO (g k) (g (k + 1))) (k : Nat) : ∀ j, LeO (g k) (g (k + j))
  | 0 => LeO.refl _
  | j + 1 => (more_rounds h k j).trans (h (k + j))
theorem at_rounds {α : Type} {g : Nat → Option α} (h : ∀ k, LeO (g k) (g (k + 1))) {k k' : Nat} (hk : k ≤ k') {r : α} (hr : g k = some r) : g k' = some r := by
  have := more_rounds h k (k' - k) r hr
  rwa [Nat.add_sub_cancel' hk] at this
def Reps {α : Type} (R : α → List Value → Prop) (size : Nat) (ps : List α) (cs : List Value) : Prop :=
  cs.length = ps.length * size ∧ ∀ j p, ps[j]? = some p → R p ((cs.drop (j * size)).take size)
theorem Reps.none {α : Type} (R : α → List Value → Prop) (size : Nat) : Reps R size [] [] := ⟨by simp, fun j p h => by simp at h⟩
theorem Reps.snoc {α : Type} {R : α → List Value → Prop} {size : Nat} {ps : List α} {cs c : List Value} {p : α} (h : Reps R size ps cs) (hp : R p c) (hc : c.length = size) : Reps R size (ps ++ [p]) (cs ++ c) := by
  refine ⟨by rw [List.length_append, h.1, hc, List.length_append, List.length_singleton, Nat.add_mul, Nat.one_mul], fun j q hq => ?_⟩
  rcases Nat.lt_or_ge j ps.length with hj | hj
  · rw [List.getElem?_append_left hj] at hq
    have h1 : j * size + size ≤ cs.length := by rw [h.1, ← Nat.succ_mul]; exact Nat.mul_le_mul_right _ hj
    have h2 := h.2 j q hq
    rw [List.drop_append_of_le_length (by omega), List.take_append_of_le_length (by rw [List.length_drop]; omega)]
    exact h2
  · have hj' : j = ps.length := by
      have := (List.getElem?_eq_some_iff.1 hq).1
      rw [List.length_append, List.length_singleton] at this
      omega
    subst hj'
    have hq' : p = q := by simpa using hq
    subst hq'
    rw [← h.1, List.drop_left, ← hc, List.take_length]
    exact hp
theorem Reps.imp_ {α : Type} {R R' : α → List Value → Prop} {size : Nat} {ps : List α} {cs : List Value} (h : Reps R size ps cs) (hR : ∀ p c, R p c → R' p c) : Reps R' size ps cs := ⟨h.1, fun j p hj => hR _ _ (h.2 j p hj)⟩
def ReadsRow {α : Type} (R : α → List Value → Prop) (size : Nat) (w : World) (A : Option Addr) (n : Nat) (ps : List α) : Prop :=
  ps.length = n ∧ n ≤ 9223372036854775807 ∧ (0 < n → ∃ ad, A = some ad ∧ ∀ j p, ps[j]? = some p → ∃ c, c.length = size ∧ R p c ∧ ∀ i u, c[i]? = some u → w.cell? (ad.add (j * size + i)) = some u)
theorem ReadsRow.get_ {α : Type} {R : α → List Value → Prop} {size : Nat} {w : World} {A : Option Addr} {n : Nat} {ps : List α} (h : ReadsRow R size w A n ps) (d : α) (i : Int) (h0 : 0 ≤ i) (h1 : i < n) :
    ∃ ad c, A = some ad ∧ c.length = size ∧ R (ps.getD i.toNat d) c ∧ ∀ j u, c[j]? = some u → w.cell? (ad.add (i.toNat * size + j)) = some u := by
  obtain ⟨ad, e, hc⟩ := h.2.2 (by omega)
  have hl : i.toNat < ps.length := by have := h.1; omega
  obtain ⟨c, hs, hr, hcell⟩ := hc i.toNat _ (List.getElem?_eq_getElem hl)
  refine ⟨ad, c, e, hs, ?_, hcell⟩
  rw [List.getD_eq_getElem?_getD, List.getElem?_eq_getElem hl]
  exact hr
theorem ReadsRow.imp_ {α : Type} {R R' : α → List Value → Prop} {size : Nat} {w w1 : World} {A : Option Addr} {n : Nat} {ps : List α} (h : ReadsRow R size w A n ps) (hb : Below w.heap.size w w1) (hR : ∀ p c, R p c → R' p c) : ReadsRow R' size w1 A n ps :=
  ⟨h.1, h.2.1, fun hn => by
    obtain ⟨ad, e, hc⟩ := h.2.2 hn
    refine ⟨ad, e, fun j p hj => ?_⟩
    obtain ⟨c, hs, hr, hcell⟩ := hc j p hj
    exact ⟨c, hs, hR _ _ hr, fun i u hu => pw_cell_below hb (hcell i u hu)⟩⟩
theorem own_reads_row {α : Type} {R : α → List Value → Prop} {w : World} {base n size : Nat} {e : TypeId} {v : Value} {ps : List α} {cs : List Value} (h : w.ownsRow base e size v n cs) (hR : Reps R size ps cs) (hn : ps.length = n) :
    ∃ A c, v = .slice A n c ∧ ReadsRow R size w A n ps := by
  rcases Nat.eq_zero_or_pos n with h0 | h0
  · rcases h.2 with ⟨rfl, rfl⟩ | ⟨g, cap, cur, rfl, _⟩
    · exact ⟨none, 0, rfl, hn, by omega, fun hp => absurd hp (by omega)⟩
    · exact ⟨_, cap, rfl, hn, by omega, fun hp => absurd hp (by omega)⟩
  · obtain ⟨g, cap, rfl, _, _⟩ := h.form h0
    have hm : n ≤ 9223372036854775807 := by
      rcases h.2 with ⟨_, h1⟩ | ⟨g', cap', cur, he, _, _, h1, h2, _⟩
      · omega
      · simp only [maxLen] at h2
        omega
    refine ⟨_, cap, rfl, hn, hm, fun _ => ⟨_, rfl, fun j p hj => ⟨(cs.drop (j * size)).take size, ?_, hR.2 j p hj, fun i u hu => ?_⟩⟩⟩
    · have hjl := (List.getElem?_eq_some_iff.1 hj).1
      have h1 : j * size + size ≤ cs.length := by rw [hR.1, ← Nat.succ_mul]; exact Nat.mul_le_mul_right _ hjl
      rw [List.length_take, List.length_drop]
      omega
    · refine h.cells (g := g) rfl _ u ?_
      rw [List.getElem?_take] at hu
      split at hu
      · rw [List.getElem?_drop] at hu
        exact hu
      · cases hu
theorem add_field (ad : Addr) (m j : Nat) (hj : 0 < j) : ad.add (m + j) = ⟨(ad.add m).block, (ad.add m).off + j, none⟩ := by
  unfold Addr.add
  by_cases hm : m = 0
  · subst hm
    simp [Nat.ne_of_gt hj]
  · simp [hm, Nat.add_assoc]
section
variable {P : Program} {ops : Array Oper} {rest : List Oper} {o : Oper} {a : Act} {Q : Exit → Act → World → Prop}
theorem print_append_cells {w0 W : World} (base : Nat) (hgd : o.guard = none) (s x : Operand) (t e : TypeId) (z : Value) (size bytes : Nat)
    (ho : o.op = .call { callee := .builtin .append, args := #[s, x], argTypes := #[t, t] })
    (ht : P.underlying t = some (.slice e)) (hinfo : (P.info? e).map (fun i => (i.zero, i.size, i.bytes)) = some (some z, size, bytes)) (hz : z.cells.size = size) (hs0 : 0 < size) (hb0 : 0 < bytes)
    (v : Value) (n : Nat) (xs ys : List Value) (hs : a.eval s = v) (hx : a.eval x = .slice (some ⟨W.heap.size, 0, none⟩) 1 1) (hys : ys.length = size) (h1 : ∀ u ∈ ys, u.oneCell' = true)
    (HO : W.ownsRow base e size v n xs) (HB : Below base w0 W) (hbase : base ≤ W.heap.size) (hl : (n + 1) * bytes ≤ 140737488355328)
    (h : ∀ v1 w1, w1.ownsRow base e size v1 (n + 1) (xs ++ ys) → Below base w0 w1 → W.grownBy w1 v.ownBlock → (v1.ownBlock = v.ownBlock ∨ ∃ b, v1.ownBlock = some b ∧ W.heap.size ≤ b) → wpList P ops Q rest (a.put o.dst v1) w1) :
    wpList P ops Q (o :: rest) a (W.alloc (.cells ys.toArray e)) := by
  obtain ⟨i0, hi, hzz⟩ := Option.map_eq_some_iff.1 hinfo
  simp only [Prod.mk.injEq] at hzz
  obtain ⟨hz0, hz1, hz2⟩ := hzz
  have hlen : n + 1 ≤ 140737488355328 := Nat.le_trans (Nat.le_mul_of_pos_right _ hb0) hl
  refine wpList_append_own_at (W.alloc (.cells ys.toArray e)) hgd s x t ho base e i0 z size bytes ht hi hz0 hz1 hz2 hz hs0 v n xs hs (HO.alloc _) ⟨W.heap.size, 0, none⟩ 1 1 ys hx (by rw [hys]; simp)
    (by simpa using World.news_of_block (cs := ys.toArray) (t := e) (fr := (0, 0)) (heap_alloc_new W (.cells ys.toArray e))) h1 (by simp only [maxLen]; omega) hl (by simp; omega) ?_
  intro v1 w1 hown hg _ hat
  refine h v1 w1 hown ((HB.alloc hbase _).grown hg (by simp; omega) (own_base HO)) (World.grownBy.trans (World.grownBy_alloc W _ _) hg) ?_
  rcases hat with hat | hat
  · exact .inl hat
  · exact .inr ⟨_, hat, by simp⟩
end
theorem own_ne {w : World} {base : Nat} {e t : TypeId} {size n g : Nat} {v : Value} {xs : List Value} {cs : Array Value} (h : w.ownsRow base e size v n xs) (hg : w.heap[g]? = some (.cells cs t (0, 0))) (hne : e ≠ t) : some g ≠ v.ownBlock := by
  rcases h.2 with ⟨rfl, _⟩ | ⟨g', cap, cur, rfl, _, hh, _⟩
  · simp [Value.ownBlock]
  · intro he
    have : g = g' := by simpa [Value.ownBlock] using he
    subst this
    rw [hg] at hh
    injection hh with hh
    injection hh with _ ht
    exact hne ht.symm
theorem blk_set {w : World} {g : Nat} {t : TypeId} {cs : Array Value} (h : w.heap[g]? = some (.cells cs t (0, 0))) (i : Nat) (u : Value) : (w.setCell ⟨g, i, none⟩ u).heap[g]? = some (.cells (cs.setIfInBounds i u) t (0, 0)) := by
  simp [World.setCell, Array.getElem?_modify, h]
theorem blk_far {w : World} {g : Nat} {t : TypeId} {cs : Array Value} (h : w.heap[g]? = some (.cells cs t (0, 0))) {p : Addr} (hp : g ≠ p.block) (u : Value) : (w.setCell p u).heap[g]? = some (.cells cs t (0, 0)) := (Below.heap_setCell w p u g hp).trans h
theorem blk_lt {w : World} {g : Nat} {o : Obj} (h : w.heap[g]? = some o) : g < w.heap.size := (Array.getElem?_eq_some_iff.1 h).1
theorem blk_cell {w : World} {g : Nat} {t : TypeId} {cs : Array Value} (h : w.heap[g]? = some (.cells cs t (0, 0))) (i : Nat) : w.cell? ⟨g, i, none⟩ = cs[i]? := cell_of_row w g i cs t (0, 0) h
theorem blk_frozen {w : World} {g : Nat} {t : TypeId} {cs : Array Value} (h : w.heap[g]? = some (.cells cs t (0, 0))) (i : Nat) : w.frozen? ⟨g, i, none⟩ = false := by simp [World.frozen?, h]
theorem blk_grown {w w1 : World} {g : Nat} {o : Obj} {row : Option Nat} (h : w.heap[g]? = some o) (hg : w.grownBy w1 row) (hne : some g ≠ row) : w1.heap[g]? = some o := (hg.block g (blk_lt h) hne).trans h
def KeepBut (w w' : World) (g : Nat) (row : Option Nat) : Prop := w.heap.size ≤ w'.heap.size ∧ ∀ i, i < w.heap.size → i ≠ g → some i ≠ row → w'.heap[i]? = w.heap[i]?
theorem KeepBut.refl (w : World) (g : Nat) (row : Option Nat) : KeepBut w w g row := ⟨Nat.le_refl _, fun _ _ _ _ => rfl⟩
theorem KeepBut.of_below {w w1 : World} (h : Below w.heap.size w w1) (g : Nat) (row : Option Nat) : KeepBut w w1 g row := ⟨h.size, fun i hi _ _ => h.block i hi⟩
theorem KeepBut.trans {w w1 w2 : World} {g : Nat} {row row1 : Option Nat} (h : KeepBut w w1 g row) (k : KeepBut w1 w2 g row1) (hr : row1 = row ∨ ∃ b, row1 = some b ∧ w.heap.size ≤ b) : KeepBut w w2 g row :=
  ⟨Nat.le_trans h.1 k.1, fun i hi hg hn => by
    refine (k.2 i (Nat.lt_of_lt_of_le hi h.1) hg ?_).trans (h.2 i hi hg hn)
    rcases hr with rfl | ⟨b, rfl, hb⟩
    · exact hn
    · intro e
      injection e with e
      omega⟩
theorem KeepBut.blk {w w1 : World} {g g' : Nat} {row : Option Nat} {o : Obj} (h : KeepBut w w1 g row) (hb : w.heap[g']? = some o) (hg : g' ≠ g) (hr : some g' ≠ row) : w1.heap[g']? = some o := (h.2 g' (blk_lt hb) hg hr).trans hb
theorem KeepBut.own {w w1 : World} {g : Nat} {row : Option Nat} {base : Nat} {e : TypeId} {size n : Nat} {v : Value} {xs : List Value} (h : KeepBut w w1 g row) (ho : w.ownsRow base e size v n xs) (hg : v.ownBlock ≠ some g) (hr : v.ownBlock = none ∨ v.ownBlock ≠ row) : w1.ownsRow base e size v n xs := by
  obtain ⟨h1, h2⟩ := ho
  refine ⟨h1, ?_⟩
  rcases h2 with h2 | ⟨b, cap, cur, rfl, hb, hh, r⟩
  · exact .inl h2
  · refine .inr ⟨b, cap, cur, rfl, hb, h.blk hh ?_ ?_, r⟩
    · intro e
      exact hg (by rw [← e]; rfl)
    · rcases hr with hr | hr
      · simp [Value.ownBlock] at hr
      · exact hr
def Ev {α : Type} (g : Nat → Option α) (r : α) : Prop := ∃ K, ∀ k, K ≤ k → g k = some r
theorem Ev.of {α : Type} {g : Nat → Option α} {r : α} (hg : ∀ k, LeO (g k) (g (k + 1))) {k : Nat} (h : g k = some r) : Ev g r := ⟨k, fun _ hk => at_rounds hg hk h⟩
theorem Ev.bind {α β : Type} {g : Nat → Option α} {f : Nat → α → Option β} {a : α} {r : β} (h : Ev g a) (k : Ev (fun n => f n a) r) : Ev (fun n => (g n).bind (f n)) r := by
  obtain ⟨K, h⟩ := h
  obtain ⟨K', k⟩ := k
  refine ⟨max K K', fun n hn => ?_⟩
  have h1 := h n (by omega)
  have h2 := k n (by omega)
  simp only [h1, Option.bind_some]
  exact h2
theorem Ev.step {α : Type} {g f : Nat → Option α} {r : α} (h : ∀ k, g (k + 1) = f k) (k : Ev f r) : Ev g r := by
  obtain ⟨K, k⟩ := k
  refine ⟨K + 1, fun n hn => ?_⟩
  obtain ⟨m, rfl⟩ : ∃ m, n = m + 1 := ⟨n - 1, by omega⟩
  rw [h]
  exact k m (by omega)
theorem Ev.congr {α : Type} {g f : Nat → Option α} {r : α} (h : ∀ k, g k = f k) (k : Ev f r) : Ev g r := by
  obtain ⟨K, k⟩ := k
  exact ⟨K, fun n hn => (h n).trans (k n hn)⟩
section
variable {P : Program} {ops : Array Oper} {o : Oper} {a : Act} {Q : Exit → Act → World → Prop} {K : Act → World → Prop}
theorem step_append_cells {w0 W : World} (base : Nat) (hw : Region.wanted o (yielded ops a.tmps) = true) (s x : Operand) (t e : TypeId) (z : Value) (size bytes : Nat)
    (ho : o.op = .call { callee := .builtin .append, args := #[s, x], argTypes := #[t, t] })
    (ht : P.underlying t = some (.slice e)) (hinfo : (P.info? e).map (fun i => (i.zero, i.size, i.bytes)) = some (some z, size, bytes)) (hz : z.cells.size = size) (hs0 : 0 < size) (hb0 : 0 < bytes)
    (v : Value) (n : Nat) (xs ys : List Value) (hs : a.eval s = v) (hx : a.eval x = .slice (some ⟨W.heap.size, 0, none⟩) 1 1) (hys : ys.length = size) (h1 : ∀ u ∈ ys, u.oneCell' = true)
    (HO : W.ownsRow base e size v n xs) (HB : Below base w0 W) (hbase : base ≤ W.heap.size) (hl : (n + 1) * bytes ≤ 140737488355328)
    (h : ∀ v1 w1, w1.ownsRow base e size v1 (n + 1) (xs ++ ys) → Below base w0 w1 → W.grownBy w1 v.ownBlock → (v1.ownBlock = v.ownBlock ∨ ∃ b, v1.ownBlock = some b ∧ W.heap.size ≤ b) → K (a.put o.dst v1) w1) :
    if Region.wanted o (yielded ops a.tmps) = true then Oper.wp P o a (W.alloc (.cells ys.toArray e)) K Q else K (a.put o.dst undef) (W.alloc (.cells ys.toArray e)) := by
  obtain ⟨i0, hi, hzz⟩ := Option.map_eq_some_iff.1 hinfo
  simp only [Prod.mk.injEq] at hzz
  obtain ⟨hz0, hz1, hz2⟩ := hzz
  have hlen : n + 1 ≤ 140737488355328 := Nat.le_trans (Nat.le_mul_of_pos_right _ hb0) hl
  rw [if_pos hw]
  obtain ⟨v1, w1, hr, hown, hg, _, hat⟩ := run_append_own_at (P := P) (W.alloc (.cells ys.toArray e)) base t o.type e i0 z size bytes ht hi hz0 hz1 hz2 hz hs0 v n xs (HO.alloc _) ⟨W.heap.size, 0, none⟩ 1 1 ys (by rw [hys]; simp)
    (by simpa using World.news_of_block (cs := ys.toArray) (t := e) (fr := (0, 0)) (heap_alloc_new W (.cells ys.toArray e))) h1 (by simp only [maxLen]; omega) hl (by simp; omega)
  unfold Oper.wp execOp
  simp only [ho, resolve, invoke, builtin, Sem.run_bind, Sem.run_pure, Result.andThen_ok, List.map_toArray, List.map_cons, List.map_nil, hs, hx, hr]
  refine h v1 w1 hown ((HB.alloc hbase _).grown hg (by simp; omega) (own_base HO)) (World.grownBy.trans (World.grownBy_alloc W _ _) hg) ?_
  rcases hat with hat | hat
  · exact .inl hat
  · exact .inr ⟨_, hat, by simp⟩
end
theorem own_weaken {w : World} {base base' : Nat} {e : TypeId} {size n : Nat} {v : Value} {xs : List Value} (h : w.ownsRow base e size v n xs) (hb : base' ≤ base) : w.ownsRow base' e size v n xs := by
  obtain ⟨h1, h2⟩ := h
  refine ⟨h1, ?_⟩
  rcases h2 with h2 | ⟨g, cap, cur, rfl, hg, r⟩
  · exact .inl h2
  · exact .inr ⟨g, cap, cur, rfl, Nat.le_trans hb hg, r⟩
section
variable {α : Type} {enc : α → Value} {d : α}
def encs (enc : α → Value) (xs : List α) : List Value := xs.map enc
def rdOf (d : α) (xs : List α) (i : Int) : α := xs.getD i.toNat d
theorem encs_length (xs : List α) : (encs enc xs).length = xs.length := by simp [encs]
theorem encs_get (xs : List α) (j : Nat) (h : j < xs.length) : (encs enc xs)[j]? = some (enc (xs.getD j d)) := by
  simp [encs, List.getElem?_eq_getElem h, List.getD_eq_getElem?_getD]
def ReadsOf (enc : α → Value) (d : α) (w : World) (A : Option Addr) (n : Nat) (xs : List α) : Prop :=
  xs.length = n ∧ n ≤ 9223372036854775807 ∧ (0 < n → ∃ ad, A = some ad ∧ ∀ j, j < n → w.cell? (ad.add j) = some (enc (xs.getD j d)))
theorem ReadsOf.at_ {w : World} {A : Option Addr} {n : Nat} {xs : List α} (h : ReadsOf enc d w A n xs) (i : Int) (h0 : 0 ≤ i) (h1 : i < n) : ∃ ad, A = some ad ∧ w.cell? (ad.add i.toNat) = some (enc (rdOf d xs i)) := by
  obtain ⟨ad, e, hc⟩ := h.2.2 (by omega)
  exact ⟨ad, e, hc _ (by omega)⟩
theorem ReadsOf.below {w w1 : World} {A : Option Addr} {n : Nat} {xs : List α} (h : ReadsOf enc d w A n xs) (hb : Below w.heap.size w w1) : ReadsOf enc d w1 A n xs :=
  ⟨h.1, h.2.1, fun hn => by
    obtain ⟨ad, e, hc⟩ := h.2.2 hn
    exact ⟨ad, e, fun j hj => pw_cell_below hb (hc j hj)⟩⟩
theorem ReadsOf.take_ {w : World} {A : Option Addr} {n : Nat} {xs : List α} (h : ReadsOf enc d w A n xs) (i : Nat) (hi : i ≤ n) : ReadsOf enc d w A i (xs.take i) := by
  refine ⟨by rw [List.length_take, h.1]; omega, by have := h.2.1; omega, fun hp => ?_⟩
  obtain ⟨ad, e, hc⟩ := h.2.2 (by omega)
  refine ⟨ad, e, fun j hj => ?_⟩
  rw [hc j (by omega)]
  simp [List.getD_eq_getElem?_getD, hj]
theorem own_at_of {W : World} {base g n cap : Nat} {e : TypeId} {xs : List α} (h : W.ownsRow base e 1 (.slice (some ⟨g, 0, none⟩) n cap) n (encs enc xs)) (i : Int) (h0 : 0 ≤ i) (h1 : i < n) :
    W.cell? ⟨g, i.toNat, none⟩ = some (enc (rdOf d xs i)) ∧ W.frozen? ⟨g, i.toNat, none⟩ = false := by
  have hl : xs.length = n := by have := h.1; simp [encs] at this; exact this
  constructor
  · have hc := h.cells (g := g) rfl i.toNat _ (encs_get (d := d) xs i.toNat (by omega))
    rwa [add_plain] at hc
  · rcases h.2 with ⟨h', _⟩ | ⟨g', cap', cur, h', _, hh, _⟩
    · cases h'
    · have : g = g' := by injection h' with h'; injection h' with h'; injection h' with h'
      subst this
      simp [World.frozen?, hh]
theorem own_store_of {W : World} {base g n cap : Nat} {e : TypeId} {xs : List α} (h : W.ownsRow base e 1 (.slice (some ⟨g, 0, none⟩) n cap) n (encs enc xs)) (i : Int) (x : α) :
    (W.setCell ⟨g, i.toNat, none⟩ (enc x)).ownsRow base e 1 (.slice (some ⟨g, 0, none⟩) n cap) n (encs enc (xs.set i.toNat x)) ∧ W.grownBy (W.setCell ⟨g, i.toNat, none⟩ (enc x)) (some g) := by
  have hs := h.stored i.toNat (enc x)
  have he : (encs enc xs).set i.toNat (enc x) = encs enc (xs.set i.toNat x) := by simp [encs, List.map_set]
  rwa [he] at hs
end
section
variable {α : Type} {P : Program} {ops : Array Oper} {rest : List Oper} {o : Oper} {a : Act} {Q : Exit → Act → World → Prop}
end
theorem blk_alloc {w : World} {g : Nat} {o : Obj} (h : w.heap[g]? = some o) (o' : Obj) : (w.alloc o').heap[g]? = some o := (Below.heap_alloc w o' g (blk_lt h)).trans h
theorem blk_drew {w : World} {g : Nat} {o : Obj} (h : w.heap[g]? = some o) : w.drew.heap[g]? = some o := h
theorem blk_drewN {w : World} {g : Nat} {o : Obj} (h : w.heap[g]? = some o) (n : Nat) : (w.drewN n).heap[g]? = some o := h
theorem blk_below {w w1 : World} {g : Nat} {o : Obj} (h : w.heap[g]? = some o) (hb : Below w.heap.size w w1) : w1.heap[g]? = some o := (hb.block g (blk_lt h)).trans h
theorem blk_new (w : World) (o : Obj) : (w.alloc o).heap[w.heap.size]? = some o := heap_alloc_new w o
section
variable {P : Program}
theorem results_ct {fn : Func} {p u : Tmp} {ty : TypeId} (h : fn.results = #[.cell p ty, .tmp u]) (tmps : Array Value) (w : World) (g : Nat) (t : TypeId) (cs : Array Value) (fr : Nat × Nat) (d : TypeDesc)
    (hp : tmps.getD p undef = .pointer (some ⟨g, 0, none⟩)) (hg : w.heap[g]? = some (.cells cs t fr))
    (hu : P.underlying ty = some d) (hd : (match d with | .struct _ | .array _ _ => true | _ => false) = true) (hi : (P.info? ty).map (·.size) = some cs.size) :
    (results fn tmps).run P w = .ok (.tuple #[.agg cs, tmps.getD u undef]) w := by
  have hp' : tmps[p]?.getD undef = .pointer (some ⟨g, 0, none⟩) := by simpa using hp
  simp [results, h, hp', asAddr, run_loadVar_row w g t ty cs fr d hg hu hd hi]
end
theorem own_le {w : World} {base n m c size : Nat} {e : TypeId} {A : Option Addr} {xs : List Value} (h : w.ownsRow base e size (.slice A m c) n xs) : m ≤ c := by
  rcases h.2 with ⟨he, _⟩ | ⟨g, cap, cur, he, _, _, hnc, _⟩
  · injection he with _ h2 h3
    omega
  · injection he with _ h2 h3
    omega
def OwnRow {α : Type} (R : α → List Value → Prop) (e : TypeId) (size : Nat) (w : World) (base : Nat) (v : Value) (ps : List α) : Prop :=
  ∃ inner, w.ownsRow base e size v ps.length inner ∧ Reps R size ps inner
section
variable {α : Type} {R R' : α → List Value → Prop} {e : TypeId} {size : Nat} {w w1 : World} {base : Nat} {v : Value} {ps : List α}
theorem OwnRow.none_ (R : α → List Value → Prop) (e : TypeId) (size : Nat) (w : World) (base : Nat) : OwnRow R e size w base (.slice none 0 0) [] := ⟨[], own_nil _ _ _ _, Reps.none _ _⟩
theorem OwnRow.imp_ (h : OwnRow R e size w base v ps) (hR : ∀ p c, R p c → R' p c) : OwnRow R' e size w base v ps := by
  obtain ⟨inner, ho, hr⟩ := h
  exact ⟨inner, ho, hr.imp_ hR⟩
theorem OwnRow.below (h : OwnRow R e size w base v ps) (hb : Below w.heap.size w w1) : OwnRow R e size w1 base v ps := by
  obtain ⟨inner, ho, hr⟩ := h
  exact ⟨inner, pw_own_below ho hb, hr⟩
theorem OwnRow.other (h : OwnRow R e size w base v ps) {row : Option Nat} (hg : w.grownBy w1 row) (hne : v.ownBlock = none ∨ v.ownBlock ≠ row) : OwnRow R e size w1 base v ps := by
  obtain ⟨inner, ho, hr⟩ := h
  exact ⟨inner, own_other ho hg hne, hr⟩
theorem OwnRow.lower (h : OwnRow R e size w base v ps) {base' : Nat} (hb : base' ≤ base) : OwnRow R e size w base' v ps := by
  obtain ⟨inner, ho, hr⟩ := h
  exact ⟨inner, own_weaken ho hb, hr⟩
theorem OwnRow.reads (h : OwnRow R e size w base v ps) : ∃ A c, v = .slice A ps.length c ∧ ps.length ≤ c ∧ ReadsRow R size w A ps.length ps := by
  obtain ⟨inner, ho, hr⟩ := h
  obtain ⟨A, c, rfl, hrow⟩ := own_reads_row ho hr rfl
  exact ⟨A, c, rfl, own_le ho, hrow⟩
theorem OwnRow.ne_block (h : OwnRow R e size w base v ps) {g : Nat} {t : TypeId} {cells : Array Value} (hb : w.heap[g]? = some (.cells cells t (0, 0))) (ht : e ≠ t) : some g ≠ v.ownBlock := by
  obtain ⟨inner, ho, hr⟩ := h
  exact own_ne ho hb ht
theorem OwnRow.lit (W : World) (base : Nat) {inner : List Value} (hr : Reps R size ps inner) (hb : base ≤ W.heap.size) (hm : ps.length ≤ 9223372036854775807) :
    OwnRow R e size (W.alloc (.cells inner.toArray e)) base (.slice (some ⟨W.heap.size, 0, none⟩) ps.length ps.length) ps := by
  have h := World.ownsRow_lit (base := base) (e := e) (size := size) W inner.toArray ps.length hb (by simpa [maxLen] using hm) (by simpa using hr.1)
  exact ⟨inner, by simpa using h, hr⟩
end
section
variable {P : Program} {ops : Array Oper} {rest : List Oper} {o : Oper} {a : Act} {Q : Exit → Act → World → Prop} {α : Type} {R : α → List Value → Prop}
theorem OwnRow.append {w0 W : World} (base : Nat) (hgd : o.guard = none) (s x : Operand) (t e : TypeId) (z : Value) (size bytes : Nat)
    (ho : o.op = .call { callee := .builtin .append, args := #[s, x], argTypes := #[t, t] })
    (ht : P.underlying t = some (.slice e)) (hinfo : (P.info? e).map (fun i => (i.zero, i.size, i.bytes)) = some (some z, size, bytes)) (hz : z.cells.size = size) (hs0 : 0 < size) (hb0 : 0 < bytes)
    (v : Value) (ps : List α) (p : α) (cs : List Value) (hs : a.eval s = v) (hx : a.eval x = .slice (some ⟨W.heap.size, 0, none⟩) 1 1) (hp : R p cs) (hcs : cs.length = size) (h1 : ∀ u ∈ cs, u.oneCell' = true)
    (HO : OwnRow R e size W base v ps) (HB : Below base w0 W) (hbase : base ≤ W.heap.size) (hl : (ps.length + 1) * bytes ≤ 140737488355328)
    (h : ∀ v1 w1, OwnRow R e size w1 base v1 (ps ++ [p]) → Below base w0 w1 → W.grownBy w1 v.ownBlock → (v1.ownBlock = v.ownBlock ∨ ∃ b, v1.ownBlock = some b ∧ W.heap.size ≤ b) → wpList P ops Q rest (a.put o.dst v1) w1) :
    wpList P ops Q (o :: rest) a (W.alloc (.cells cs.toArray e)) := by
  obtain ⟨inner, hown, hr⟩ := HO
  refine print_append_cells base hgd s x t e z size bytes ho ht hinfo hz hs0 hb0 v ps.length inner cs hs hx hcs h1 hown HB hbase hl ?_
  intro v1 w1 hown1 hb1 hg1 hat1
  exact h v1 w1 ⟨inner ++ cs, by rw [List.length_append, List.length_singleton]; exact hown1, hr.snoc hp hcs⟩ hb1 hg1 hat1
end
section
variable {P : Program} {ops : Array Oper} {o : Oper} {a : Act} {Q : Exit → Act → World → Prop} {K : Act → World → Prop} {α : Type} {R : α → List Value → Prop}
end
theorem ReadsRow.inner_ {α : Type} {R : α → List Value → Prop} {size : Nat} {w : World} {ad : Addr} {n : Nat} {ps : List α} (h : ReadsRow R size w (some ad) n ps) :
    ∃ inner, Reps R size ps inner ∧ ∀ j u, inner[j]? = some u → w.cell? (ad.add j) = some u := by
  have key : ∀ m, m ≤ ps.length → ∃ inner, Reps R size (ps.take m) inner ∧ ∀ j u, inner[j]? = some u → w.cell? (ad.add j) = some u := by
    intro m
    induction m with
    | zero => exact fun _ => ⟨[], Reps.none _ _, fun j u hu => by simp at hu⟩
    | succ m ih =>
      intro hm
      obtain ⟨inner, hr, hc⟩ := ih (by omega)
      obtain ⟨ad', he, hcell⟩ := h.2.2 (by have := h.1; omega)
      injection he with he
      subst he
      obtain ⟨c, hcl, hp, hcc⟩ := hcell m _ (List.getElem?_eq_getElem (show m < ps.length by omega))
      refine ⟨inner ++ c, ?_, fun j u hu => ?_⟩
      · rw [List.take_succ_eq_append_getElem (show m < ps.length by omega)]
        exact hr.snoc hp hcl
      · have hil : inner.length = m * size := by rw [hr.1, List.length_take, Nat.min_eq_left (by omega)]
        rcases Nat.lt_or_ge j inner.length with hj | hj
        · rw [List.getElem?_append_left hj] at hu
          exact hc j u hu
        · rw [List.getElem?_append_right hj] at hu
          have := hcc (j - inner.length) u hu
          rwa [hil, Nat.add_sub_cancel' (by omega)] at this
  obtain ⟨inner, hr, hc⟩ := key ps.length (Nat.le_refl _)
  rw [List.take_length] at hr
  exact ⟨inner, hr, hc⟩
section
variable {α : Type} {P : Program}
theorem ReadsOf.len_ {enc : α → Value} {d : α} {w : World} {A : Option Addr} {n : Nat} {xs : List α} (h : ReadsOf enc d w A n xs) : ReadsOf enc d w A xs.length xs := by rw [h.1]; exact h
end
section
variable {P : Program} {ops : Array Oper} {rest : List Oper} {o : Oper} {a : Act} {Q : Exit → Act → World → Prop}
end
structure Kd (α : Type) where
  sz : Nat
  E : List Nat
  K : World → α → List Value → Prop
  M : World → Nat → (Nat → Prop) → α → List Value → Prop
  K_len : ∀ {w x cs}, K w x cs → cs.length = sz
  K_one : ∀ {w x cs}, K w x cs → ∀ u ∈ cs, u.oneCell' = true
  K_below : ∀ {w w1 : World} {x cs}, Below w.heap.size w w1 → K w x cs → K w1 x cs
  K_of_M : ∀ {w base ok x cs}, M w base ok x cs → K w x cs
  M_mono : ∀ {w base ok ok' x cs}, (∀ k, ok k → ok' k) → M w base ok x cs → M w base ok' x cs
  M_bound : ∀ {w : World} {base ok x cs}, M w base ok x cs → M w base (fun k => ok k ∧ base ≤ k ∧ k < w.heap.size ∧ ∃ q, q ∈ E ∧ ∃ cells, w.heap[k]? = some (.cells cells q (0, 0))) x cs
  M_move : ∀ {w w1 : World} {base ok x cs}, (∀ k, ok k → w1.heap[k]? = w.heap[k]?) → M w base ok x cs → M w1 base ok x cs
  M_lower : ∀ {w base base' ok x cs}, base' ≤ base → M w base ok x cs → M w base' ok x cs
theorem own_move {w w1 : World} {base : Nat} {e : TypeId} {size n : Nat} {v : Value} {xs : List Value} (h : w.ownsRow base e size v n xs) (hm : ∀ k, v.ownBlock = some k → w1.heap[k]? = w.heap[k]?) : w1.ownsRow base e size v n xs := by
  obtain ⟨h1, h2⟩ := h
  refine ⟨h1, ?_⟩
  rcases h2 with h2 | ⟨g, cap, cur, rfl, hg, hh, r⟩
  · exact .inl h2
  · exact .inr ⟨g, cap, cur, rfl, hg, (hm g (by simp [Value.ownBlock])).trans hh, r⟩
theorem own_typed {w : World} {base : Nat} {e : TypeId} {size n : Nat} {v : Value} {xs : List Value} (h : w.ownsRow base e size v n xs) (k : Nat) (hk : v.ownBlock = some k) : ∃ cells, w.heap[k]? = some (.cells cells e (0, 0)) := by
  rcases h.2 with ⟨rfl, _⟩ | ⟨g, cap, cur, rfl, hg, hh, r⟩
  · simp [Value.ownBlock] at hk
  · have : g = k := by simpa [Value.ownBlock] using hk
    subst this
    exact ⟨cur, hh⟩
namespace Kd
def C {α : Type} (d : Kd α) (w : World) (A : Option Addr) (n : Nat) (xs : List α) : Prop := ReadsRow (d.K w) d.sz w A n xs
def R {α : Type} (d : Kd α) (e : Nat) (w : World) (base : Nat) (ok : Nat → Prop) (v : Value) (xs : List α) : Prop :=
  (∀ k, v.ownBlock = some k → ok k) ∧ OwnRow (d.M w base (fun k => ok k ∧ some k ≠ v.ownBlock)) e d.sz w base v xs
section
variable {α : Type} {d : Kd α} {e : Nat} {w w1 : World} {base : Nat} {ok ok' : Nat → Prop} {v : Value} {xs : List α}
theorem C_below {A : Option Addr} {n : Nat} (h : d.C w A n xs) (hb : Below w.heap.size w w1) : d.C w1 A n xs := ReadsRow.imp_ h hb (fun _ _ hp => d.K_below hb hp)
theorem R_nil (d : Kd α) (e : Nat) (w : World) (base : Nat) (ok : Nat → Prop) : d.R e w base ok (.slice none 0 0) [] := ⟨fun k hk => by simp [Value.ownBlock] at hk, OwnRow.none_ _ _ _ _ _⟩
theorem R_mono (h : d.R e w base ok v xs) (hok : ∀ k, ok k → ok' k) : d.R e w base ok' v xs := ⟨fun k hk => hok k (h.1 k hk), h.2.imp_ (fun _ _ hp => d.M_mono (fun k hk => ⟨hok k hk.1, hk.2⟩) hp)⟩
theorem R_bound (h : d.R e w base ok v xs) : d.R e w base (fun k => ok k ∧ base ≤ k ∧ k < w.heap.size ∧ ∃ q, q ∈ e :: d.E ∧ ∃ cells, w.heap[k]? = some (.cells cells q (0, 0))) v xs := by
  obtain ⟨h0, inner, ho, hr⟩ := h
  refine ⟨fun k hk => ?_, inner, ho, hr.imp_ (fun _ _ hp => d.M_mono (fun k hk => ?_) (d.M_bound hp))⟩
  · obtain ⟨cells, hc⟩ := own_typed ho k hk
    exact ⟨h0 k hk, own_base ho k hk, own_lt ho k hk, e, List.mem_cons_self, cells, hc⟩
  · obtain ⟨⟨h1, h2⟩, h3, h4, q, hq, hc⟩ := hk
    exact ⟨⟨h1, h3, h4, q, List.mem_cons_of_mem _ hq, hc⟩, h2⟩
theorem R_move (h : d.R e w base ok v xs) (hm : ∀ k, ok k → w1.heap[k]? = w.heap[k]?) : d.R e w1 base ok v xs := by
  obtain ⟨h0, inner, ho, hr⟩ := h
  exact ⟨h0, inner, own_move ho (fun k hk => hm k (h0 k hk)), hr.imp_ (fun _ _ hp => d.M_move (fun k hk => hm k hk.1) hp)⟩
theorem R_lower {base' : Nat} (h : d.R e w base ok v xs) (hb : base' ≤ base) : d.R e w base' ok v xs := by
  obtain ⟨h0, inner, ho, hr⟩ := h
  exact ⟨h0, inner, own_weaken ho hb, hr.imp_ (fun _ _ hp => d.M_lower hb hp)⟩
theorem R_step (h : d.R e w base ok v xs) (hm : ∀ k, ok k → k < w.heap.size → w1.heap[k]? = w.heap[k]?) : d.R e w1 base ok v xs :=
  R_mono (R_move (R_bound h) (fun k hk => hm k hk.1 hk.2.2.1)) (fun _ hk => hk.1)
theorem M_step {x : α} {cs : List Value} (h : d.M w base ok x cs) (hm : ∀ k, ok k → k < w.heap.size → w1.heap[k]? = w.heap[k]?) : d.M w1 base ok x cs :=
  d.M_mono (fun _ hk => hk.1) (d.M_move (fun k hk => hm k hk.1 hk.2.2.1) (d.M_bound h))
theorem R_below (h : d.R e w base ok v xs) (hb : Below w.heap.size w w1) : d.R e w1 base ok v xs := R_step h (fun k _ hk => hb.block k hk)
theorem M_below {x : α} {cs : List Value} (h : d.M w base ok x cs) (hb : Below w.heap.size w w1) : d.M w1 base ok x cs := M_step h (fun k _ hk => hb.block k hk)
theorem R_far (h : d.R e w base ok v xs) {p : Addr} (hok : ∀ k, ok k → k ≠ p.block) (u : Value) : d.R e (w.setCell p u) base ok v xs := R_step h (fun k ho _ => Below.heap_setCell w p u k (hok k ho))
theorem R_types (h : d.R e w base ok v xs) {g t : Nat} {cells : Array Value} (hb : w.heap[g]? = some (.cells cells t (0, 0))) (ht : ∀ q, q ∈ e :: d.E → q ≠ t) : d.R e w base (fun k => ok k ∧ k ≠ g) v xs :=
  R_mono (R_bound h) (fun k hk => ⟨hk.1, by
    obtain ⟨_, _, _, q, hq, cells', hc⟩ := hk
    rintro rfl
    rw [hc] at hb
    injection hb with hb
    injection hb with _ hb
    exact ht q hq hb⟩)
theorem R_reads (h : d.R e w base ok v xs) : ∃ A c, v = .slice A xs.length c ∧ xs.length ≤ c ∧ d.C w A xs.length xs := by
  obtain ⟨A, c, he, hl, hr⟩ := OwnRow.reads h.2
  exact ⟨A, c, he, hl, hr.imp_ (Below.refl _ _) (fun _ _ hp => d.K_of_M hp)⟩
theorem R_slice (h : d.R e w base ok v xs) : ∃ A c, v = .slice A xs.length c := by
  obtain ⟨A, c, he, _⟩ := R_reads h
  exact ⟨A, c, he⟩
theorem R_own (h : d.R e w base ok v xs) : ∃ inner, w.ownsRow base e d.sz v xs.length inner := by
  obtain ⟨_, inner, ho, _⟩ := h
  exact ⟨inner, ho⟩
theorem R_ne (h : d.R e w base ok v xs) {g t : Nat} {cells : Array Value} (hb : w.heap[g]? = some (.cells cells t (0, 0))) (ht : e ≠ t) : some g ≠ v.ownBlock := OwnRow.ne_block h.2 hb ht
end
def scalar {α : Type} (enc : α → Value) (h1 : ∀ x, (enc x).oneCell' = true) : Kd α where
  sz := 1
  E := []
  K := fun _ x cs => cs = [enc x]
  M := fun _ _ _ x cs => cs = [enc x]
  K_len := fun h => by rw [h]; rfl
  K_one := fun h u hu => by
    rw [h] at hu
    rw [List.mem_singleton.1 hu]
    exact h1 _
  K_below := fun _ h => h
  K_of_M := fun h => h
  M_mono := fun _ h => h
  M_bound := fun h => h
  M_move := fun _ h => h
  M_lower := fun _ h => h
def int (k : IntKind) : Kd Int := scalar (Value.int k) (fun _ => rfl)
def bool : Kd Bool := scalar Value.bool (fun _ => rfl)
def string : Kd ByteArray := scalar Value.string (fun _ => rfl)
def slice {α : Type} (e : Nat) (d : Kd α) : Kd (List α) where
  sz := 1
  E := e :: d.E
  K := fun w xs cs => ∃ A c, cs = [.slice A xs.length c] ∧ xs.length ≤ c ∧ d.C w A xs.length xs
  M := fun w base ok xs cs => ∃ v, cs = [v] ∧ d.R e w base ok v xs
  K_len := by
    rintro w x cs ⟨A, c, rfl, _⟩
    rfl
  K_one := by
    rintro w x cs ⟨A, c, rfl, _⟩ u hu
    rw [List.mem_singleton.1 hu]
    rfl
  K_below := by
    rintro w w1 x cs hb ⟨A, c, rfl, hl, hr⟩
    exact ⟨A, c, rfl, hl, C_below hr hb⟩
  K_of_M := by
    rintro w base ok x cs ⟨v, rfl, h⟩
    obtain ⟨A, c, rfl, hl, hr⟩ := R_reads h
    exact ⟨A, c, rfl, hl, hr⟩
  M_mono := by
    rintro w base ok ok' x cs hok ⟨v, rfl, h⟩
    exact ⟨v, rfl, R_mono h hok⟩
  M_bound := by
    rintro w base ok x cs ⟨v, rfl, h⟩
    exact ⟨v, rfl, R_bound h⟩
  M_move := by
    rintro w w1 base ok x cs hm ⟨v, rfl, h⟩
    exact ⟨v, rfl, R_move h hm⟩
  M_lower := by
    rintro w base base' ok x cs hb ⟨v, rfl, h⟩
    exact ⟨v, rfl, R_lower h hb⟩
def pair {α β : Type} (a : Kd α) (b : Kd β) : Kd (α × β) where
  sz := a.sz + b.sz
  E := a.E ++ b.E
  K := fun w x cs => ∃ c0 c1, cs = c0 ++ c1 ∧ a.K w x.1 c0 ∧ b.K w x.2 c1
  M := fun w base ok x cs => ∃ c0 c1, cs = c0 ++ c1 ∧ a.M w base ok x.1 c0 ∧ b.M w base ok x.2 c1
  K_len := by
    rintro w x cs ⟨c0, c1, rfl, h0, h1⟩
    rw [List.length_append, a.K_len h0, b.K_len h1]
  K_one := by
    rintro w x cs ⟨c0, c1, rfl, h0, h1⟩ u hu
    rcases List.mem_append.1 hu with hu | hu
    · exact a.K_one h0 u hu
    · exact b.K_one h1 u hu
  K_below := by
    rintro w w1 x cs hb ⟨c0, c1, rfl, h0, h1⟩
    exact ⟨c0, c1, rfl, a.K_below hb h0, b.K_below hb h1⟩
  K_of_M := by
    rintro w base ok x cs ⟨c0, c1, rfl, h0, h1⟩
    exact ⟨c0, c1, rfl, a.K_of_M h0, b.K_of_M h1⟩
  M_mono := by
    rintro w base ok ok' x cs hok ⟨c0, c1, rfl, h0, h1⟩
    exact ⟨c0, c1, rfl, a.M_mono hok h0, b.M_mono hok h1⟩
  M_bound := by
    rintro w base ok x cs ⟨c0, c1, rfl, h0, h1⟩
    refine ⟨c0, c1, rfl, a.M_mono ?_ (a.M_bound h0), b.M_mono ?_ (b.M_bound h1)⟩
    · rintro k ⟨h2, h3, h4, q, hq, hc⟩
      exact ⟨h2, h3, h4, q, List.mem_append_left _ hq, hc⟩
    · rintro k ⟨h2, h3, h4, q, hq, hc⟩
      exact ⟨h2, h3, h4, q, List.mem_append_right _ hq, hc⟩
  M_move := by
    rintro w w1 base ok x cs hm ⟨c0, c1, rfl, h0, h1⟩
    exact ⟨c0, c1, rfl, a.M_move hm h0, b.M_move hm h1⟩
  M_lower := by
    rintro w base base' ok x cs hb ⟨c0, c1, rfl, h0, h1⟩
    exact ⟨c0, c1, rfl, a.M_lower hb h0, b.M_lower hb h1⟩
def iso {α β : Type} (d : Kd α) (f : β → α) : Kd β where
  sz := d.sz
  E := d.E
  K := fun w x cs => d.K w (f x) cs
  M := fun w base ok x cs => d.M w base ok (f x) cs
  K_len := d.K_len
  K_one := d.K_one
  K_below := d.K_below
  K_of_M := d.K_of_M
  M_mono := d.M_mono
  M_bound := d.M_bound
  M_move := d.M_move
  M_lower := d.M_lower
def bot {α : Type} (sz : Nat) (E : List Nat) : Kd α where
  sz := sz
  E := E
  K := fun _ _ _ => False
  M := fun _ _ _ _ _ => False
  K_len := fun h => h.elim
  K_one := fun h => h.elim
  K_below := fun _ h => h
  K_of_M := fun h => h
  M_mono := fun _ h => h
  M_bound := fun h => h
  M_move := fun _ h => h
  M_lower := fun _ h => h
def upto {α : Type} (F : Kd α → Kd α) (sz : Nat) (E : List Nat) : Nat → Kd α
  | 0 => bot sz E
  | n + 1 => F (upto F sz E n)
theorem C_get {α : Type} {d : Kd α} {w : World} {A : Option Addr} {n : Nat} {xs : List α} (h : d.C w A n xs) (z : α) (i : Int) (h0 : 0 ≤ i) (h1 : i < n) :
    ∃ ad c, A = some ad ∧ c.length = d.sz ∧ d.K w (xs.getD i.toNat z) c ∧ ∀ j u, c[j]? = some u → w.cell? (ad.add (i.toNat * d.sz + j)) = some u := ReadsRow.get_ h z i h0 h1
section
variable {P : Program} {ops : Array Oper} {rest : List Oper} {o : Oper} {a : Act} {Q : Exit → Act → World → Prop} {α : Type}
end
section
variable {P : Program} {ops : Array Oper} {o : Oper} {a : Act} {Q : Exit → Act → World → Prop} {Kc : Act → World → Prop} {α : Type}
end
theorem reps_scalar {α : Type} {enc : α → Value} (xs : List α) : Reps (fun (x : α) (cs : List Value) => cs = [enc x]) 1 xs (encs enc xs) := by
  refine ⟨by simp [encs], fun j p hj => ?_⟩
  obtain ⟨hl, hp⟩ := List.getElem?_eq_some_iff.1 hj
  have hl' : j < (encs enc xs).length := by rw [encs_length]; exact hl
  rw [Nat.mul_one, List.drop_eq_getElem_cons hl']
  simp [encs, hp]
theorem R_of_own {α : Type} {enc : α → Value} {h1 : ∀ x, (enc x).oneCell' = true} {e : Nat} {w : World} {base : Nat} {ok : Nat → Prop} {v : Value} {xs : List α} (ho : w.ownsRow base e 1 v xs.length (encs enc xs)) (hok : ∀ k, v.ownBlock = some k → ok k) : (scalar enc h1).R e w base ok v xs := ⟨hok, encs enc xs, ho, reps_scalar xs⟩
theorem own_of_R {α : Type} {enc : α → Value} {h1 : ∀ x, (enc x).oneCell' = true} {e : Nat} {w : World} {base : Nat} {ok : Nat → Prop} {v : Value} {xs : List α} (h : (scalar enc h1).R e w base ok v xs) : w.ownsRow base e 1 v xs.length (encs enc xs) := by
  obtain ⟨_, inner, ho, hr⟩ := h
  have : inner = encs enc xs := by
    apply List.ext_getElem?
    intro j
    rcases Nat.lt_or_ge j xs.length with hj | hj
    · have h2 := hr.2 j _ (List.getElem?_eq_getElem hj)
      have hl : j < inner.length := by have := hr.1; simp [scalar] at this; omega
      have h3 : (inner.drop (j * 1)).take 1 = [enc xs[j]] := h2
      rw [Nat.mul_one, List.drop_eq_getElem_cons hl] at h3
      have h4 : inner[j] = enc xs[j] := by
        have h5 := congrArg List.head? h3
        rw [List.take_succ_cons] at h5
        exact Option.some.inj h5
      rw [List.getElem?_eq_getElem hl, h4]
      simp [encs, List.getElem?_eq_getElem hj]
    · have h3 : inner.length = xs.length := by have := hr.1; simp [scalar] at this; omega
      rw [List.getElem?_eq_none (by omega), List.getElem?_eq_none (by rw [encs_length]; omega)]
  rw [← this]
  exact ho
theorem C_of_reads {α : Type} {enc : α → Value} {d : α} {h1 : ∀ x, (enc x).oneCell' = true} {w : World} {A : Option Addr} {n : Nat} {xs : List α} (h : ReadsOf enc d w A n xs) : (scalar enc h1).C w A n xs := by
  refine ⟨h.1, h.2.1, fun hn => ?_⟩
  obtain ⟨ad, e, hc⟩ := h.2.2 hn
  refine ⟨ad, e, fun j p hj => ⟨[enc p], rfl, rfl, fun i u hu => ?_⟩⟩
  obtain ⟨hl, hp⟩ := List.getElem?_eq_some_iff.1 hj
  have h2 := hc j (by have := h.1; omega)
  rw [List.getD_eq_getElem?_getD, hj] at h2
  cases i with
  | zero =>
    have : enc p = u := by simpa using hu
    subst this
    simpa [scalar] using h2
  | succ i => simp at hu
theorem reads_of_C {α : Type} {enc : α → Value} {d : α} {h1 : ∀ x, (enc x).oneCell' = true} {w : World} {A : Option Addr} {n : Nat} {xs : List α} (h : (scalar enc h1).C w A n xs) : ReadsOf enc d w A n xs := by
  refine ⟨h.1, h.2.1, fun hn => ?_⟩
  obtain ⟨ad, e, hc⟩ := h.2.2 hn
  refine ⟨ad, e, fun j hj => ?_⟩
  have hl : j < xs.length := by have := h.1; omega
  obtain ⟨c, _, hK, hcell⟩ := hc j _ (List.getElem?_eq_getElem hl)
  have hK' : c = [enc xs[j]] := hK
  subst hK'
  have := hcell 0 _ rfl
  simpa [scalar, List.getD_eq_getElem?_getD, List.getElem?_eq_getElem hl] using this
end Kd
namespace Kd
section
variable {α : Type} {F : Kd α → Kd α} {sz : Nat} {E : List Nat} {hs : ∀ n, (upto F sz E n).sz = sz} {hE : ∀ n q, q ∈ (upto F sz E n).E → q ∈ E}
end
end Kd
namespace Kd
theorem R_after {α : Type} {d : Kd α} {e base : Nat} {ok : Nat → Prop} {W w1 : World} {u v v1 : Value} {xs : List α} (h : d.R e W base (fun k => ok k ∧ some k ≠ v.ownBlock) u xs) (hg : W.grownBy w1 v.ownBlock) (hat : v1.ownBlock = v.ownBlock ∨ ∃ b, v1.ownBlock = some b ∧ W.heap.size ≤ b) : d.R e w1 base (fun k => ok k ∧ some k ≠ v1.ownBlock) u xs := by
  refine R_mono (R_move (R_bound h) (fun k hk => hg.block k hk.2.2.1 hk.1.2)) (fun k hk => ⟨hk.1.1, ?_⟩)
  rcases hat with hat | ⟨b, hb, hle⟩
  · rw [hat]; exact hk.1.2
  · rw [hb]
    intro he
    injection he with he
    have := hk.2.2.1
    omega
end Kd
namespace Kd
section
variable {α β : Type} {d : Kd α} {d' : Kd β} {e e' : Nat} {w w1 W : World} {base b b' : Nat} {ok ok' okv oku : Nat → Prop} {v u : Value} {xs : List α} {ys : List β}
theorem R_alloc (h : d.R e w base ok v xs) (o : Obj) : d.R e (w.alloc o) base ok v xs := R_below h (below_alloc (Below.refl _ _) o)
theorem R_drew (h : d.R e w base ok v xs) : d.R e w.drew base ok v xs := R_below h (below_drew (Below.refl _ _))
theorem R_drewN (h : d.R e w base ok v xs) (m : Nat) : d.R e (w.drewN m) base ok v xs := R_below h (pw_below_drewN (Below.refl _ _) m)
theorem C_alloc {A : Option Addr} {n : Nat} (h : d.C w A n xs) (o : Obj) : d.C (w.alloc o) A n xs := C_below h (below_alloc (Below.refl _ _) o)
theorem C_drew {A : Option Addr} {n : Nat} (h : d.C w A n xs) : d.C w.drew A n xs := C_below h (below_drew (Below.refl _ _))
theorem C_drewN {A : Option Addr} {n : Nat} (h : d.C w A n xs) (m : Nat) : d.C (w.drewN m) A n xs := C_below h (pw_below_drewN (Below.refl _ _) m)
theorem C_nil (d : Kd α) (w : World) : d.C w none ([] : List α).length [] := ⟨rfl, by simp, fun h => absurd h (Nat.lt_irrefl 0)⟩
theorem R_reads' {A : Option Addr} {n c : Nat} (h : d.R e w base ok (.slice A n c) xs) : n = xs.length ∧ n ≤ c ∧ d.C w A xs.length xs := by
  obtain ⟨A', c', he, hl, hr⟩ := R_reads h
  injection he with h1 h2 h3
  subst h1
  exact ⟨h2, by omega, hr⟩
theorem R_lt (h : d.R e w base ok v xs) : ∀ k, v.ownBlock = some k → k < w.heap.size := by
  obtain ⟨inner, ho⟩ := R_own h
  exact own_lt ho
theorem R_base (h : d.R e w base ok v xs) : ∀ k, v.ownBlock = some k → base ≤ k := by
  obtain ⟨inner, ho⟩ := R_own h
  exact own_base ho
theorem R_form (h : d.R e w base ok v xs) (hp : 0 < xs.length) : ∃ g cap, v = .slice (some ⟨g, 0, none⟩) xs.length cap ∧ base ≤ g ∧ g < w.heap.size ∧ ∃ cells, w.heap[g]? = some (.cells cells e (0, 0)) := by
  obtain ⟨inner, ho⟩ := R_own h
  obtain ⟨g, cap, he, hb, hl⟩ := ho.form hp
  obtain ⟨cells, hc⟩ := own_typed ho g (by rw [he]; simp [Value.ownBlock])
  exact ⟨g, cap, he, hb, hl, cells, hc⟩
end
section
variable {w W : World} {A : Option Addr} {n : Nat}
theorem at_int {k : IntKind} {xs : List Int} (h : (Kd.int k).C w A n xs) (i : Int) (h0 : 0 ≤ i) (h1 : i < n) : ∃ ad, A = some ad ∧ w.cell? (ad.add i.toNat) = some (.int k (rd xs i)) :=
  ReadsOf.at_ (reads_of_C (enc := Value.int k) (d := (0 : Int)) (h1 := fun _ => rfl) h) i h0 h1
variable {α : Type} {enc : α → Value} {h1 : ∀ x, (enc x).oneCell' = true} {e base g cap : Nat} {ok : Nat → Prop} {xs : List α}
theorem R_cell (d : α) (h : (scalar enc h1).R e W base ok (.slice (some ⟨g, 0, none⟩) xs.length cap) xs) (i : Int) (h0 : 0 ≤ i) (hi : i < xs.length) : W.cell? ⟨g, i.toNat, none⟩ = some (enc (rdOf d xs i)) ∧ W.frozen? ⟨g, i.toNat, none⟩ = false := own_at_of (own_of_R h) i h0 hi
theorem R_put (h : (scalar enc h1).R e W base ok (.slice (some ⟨g, 0, none⟩) xs.length cap) xs) (i : Int) (x : α) : (scalar enc h1).R e (W.setCell ⟨g, i.toNat, none⟩ (enc x)) base ok (.slice (some ⟨g, 0, none⟩) xs.length cap) (xs.set i.toNat x) ∧ W.grownBy (W.setCell ⟨g, i.toNat, none⟩ (enc x)) (some g) := by
  obtain ⟨ho, hg⟩ := own_store_of (own_of_R h) i x
  exact ⟨R_of_own (by rw [List.length_set]; exact ho) h.1, hg⟩
end
section
variable {P : Program} {ops : Array Oper} {rest : List Oper} {o : Oper} {a : Act} {Q : Exit → Act → World → Prop}
theorem event_run {W w1 : World} {v : Value} (hgd : o.guard = none) (hrun : (execOp a.eval o).run P W = .ok (.value v) w1) (h : wpList P ops Q rest (a.put o.dst v) w1) : wpList P ops Q (o :: rest) a W := by
  refine wpList_plain hgd fun K hK => ?_
  unfold Oper.wp
  rw [hrun]
  exact hK _ _ h
variable {α : Type}
theorem R_lit (d : Kd α) {w0 W : World} (base e : Nat) (hgd : o.guard = none) {N : Tmp} (_hd : o.dst = some N) {xs : List α} {inner : List Value} {ok okp : Nat → Prop}
    (hrun : (execOp a.eval o).run P W = .ok (.value (.slice (some ⟨W.heap.size, 0, none⟩) xs.length xs.length)) (W.alloc (.cells inner.toArray e)))
    (hrep : Reps (d.M W base okp) d.sz xs inner) (hok : ∀ k, okp k → ok k) (hfresh : ok W.heap.size) (HB : Below base w0 W) (hbase : base ≤ W.heap.size) (hm : xs.length ≤ 9223372036854775807)
    (h : ∀ v1 w1, d.R e w1 base ok v1 xs → Below base w0 w1 → W.grownBy w1 none → (∃ b, v1.ownBlock = some b ∧ W.heap.size ≤ b) → wpList P ops Q rest (a.put o.dst v1) w1) : wpList P ops Q (o :: rest) a W := by
  refine event_run hgd hrun (h _ _ ⟨fun k hk => ?_, inner, ?_, ?_⟩ (HB.alloc hbase _) (World.grownBy_alloc W _ none) ⟨W.heap.size, by simp [Value.ownBlock], Nat.le_refl _⟩)
  · have : W.heap.size = k := by simpa [Value.ownBlock] using hk
    subst this
    exact hfresh
  · have h2 := World.ownsRow_lit (base := base) (e := e) (size := d.sz) W inner.toArray xs.length hbase (by simpa [maxLen] using hm) (by simpa using hrep.1)
    simpa using h2
  · refine hrep.imp_ (fun p c hp => d.M_mono (fun k hk => ⟨hok k hk.1, fun he => ?_⟩) (M_below (d.M_bound hp) (below_alloc (Below.refl _ _) _)))
    have h3 : k = W.heap.size := by simpa [Value.ownBlock] using he
    have := hk.2.2.1
    omega
theorem reps_made {α : Type} {R : α → List Value → Prop} {z : Value} {size : Nat} {z0 : α} (hz : z.cells.size = size) (hs : 0 < size) (h0 : R z0 z.cells.toList) (m : Nat) : Reps R size (List.replicate m z0) (madeCells z.cells (m * size)).toList := by
  refine ⟨by simp [size_madeCells], fun j p hj => ?_⟩
  obtain ⟨hjl, hp⟩ := List.getElem?_eq_some_iff.1 hj
  have hjm : j < m := by simpa using hjl
  have hp' : z0 = p := by simpa using hp
  subst hp'
  have hle : j * size + size ≤ m * size := by rw [← Nat.succ_mul]; exact Nat.mul_le_mul_right _ hjm
  have : ((madeCells z.cells (m * size)).toList.drop (j * size)).take size = z.cells.toList := by
    apply List.ext_getElem
    · simp [size_madeCells, hz]
      omega
    · intro i h1 h2
      have hi : i < size := by rw [Array.length_toList, hz] at h2; exact h2
      have hmod : (j * size + i) % size = i := by
        rw [Nat.mul_comm, Nat.mul_add_mod]
        exact Nat.mod_eq_of_lt hi
      simp [madeCells, hz, hmod]
      rw [getElem!_pos z.cells i (by omega)]
  rw [this]
  exact h0
theorem R_make (d : Kd α) {w0 W : World} (base e : Nat) (hgd : o.guard = none) {N : Tmp} (hd : o.dst = some N) (t : TypeId) (x y : Operand) (ho : o.op = .makeSlice t x y) (n : Int) (hx : a.eval x = .int .i64 n) (hy : a.eval y = .int .i64 n)
    (ht : P.underlying t = some (.slice e)) (z : Value) (bytes : Nat) (hinfo : (P.info? e).map (fun i => (i.zero, i.size, i.bytes)) = some (some z, d.sz, bytes)) (hz : z.cells.size = d.sz) (hs0 : 0 < d.sz) (hb0 : 0 < bytes)
    (z0 : α) {ok okp : Nat → Prop} (hzero : d.M W base okp z0 z.cells.toList) (hok : ∀ k, okp k → ok k) (hfresh : ok W.heap.size) (h0 : 0 ≤ n) (hl : n.toNat * bytes ≤ 281474976710656) (HB : Below base w0 W) (hbase : base ≤ W.heap.size)
    (h : ∀ v1 w1, d.R e w1 base ok v1 (List.replicate n.toNat z0) → Below base w0 w1 → W.grownBy w1 none → (∃ b, v1.ownBlock = some b ∧ W.heap.size ≤ b) → wpList P ops Q rest (a.put o.dst v1) w1) : wpList P ops Q (o :: rest) a W := by
  obtain ⟨m, rfl⟩ := Int.eq_ofNat_of_zero_le h0
  simp only [Int.toNat_natCast] at hl h
  obtain ⟨i0, hi, hzz⟩ := Option.map_eq_some_iff.1 hinfo
  simp only [Prod.mk.injEq] at hzz
  obtain ⟨hz0, hz1, hz2⟩ := hzz
  have hm : m ≤ 281474976710656 := Nat.le_trans (Nat.le_mul_of_pos_right _ hb0) hl
  have hr := run_make (P := P) W t e i0 z ht hi hz0 .i64 .i64 (m : Int) (m : Int) (by omega) (by omega)
    (by
      have h3 : ((i0.bytes * m : Nat) : Int) ≤ 281474976710656 := by rw [hz2, Nat.mul_comm]; omega
      rwa [Int.natCast_mul] at h3) (by omega)
  simp only [Int.toNat_natCast] at hr
  rw [hz1] at hr
  refine R_lit d base e hgd hd (xs := List.replicate m z0) (inner := (madeCells z.cells (m * d.sz)).toList) (okp := okp) (ok := ok) ?_ (reps_made hz hs0 hzero m) hok hfresh HB hbase (by simp; omega) h
  simp [execOp, ho, hx, hy, hr]
end
end Kd
theorem own_take {w : World} {base n m c size : Nat} {e : TypeId} {A : Option Addr} {xs : List Value} (h : w.ownsRow base e size (.slice A n c) n xs) (hm : m ≤ n) : w.ownsRow base e size (.slice A m c) m (xs.take (m * size)) := by
  obtain ⟨h1, h2⟩ := h
  refine ⟨by rw [List.length_take, h1]; exact Nat.min_eq_left (Nat.mul_le_mul_right _ hm), ?_⟩
  rcases h2 with ⟨he, h0⟩ | ⟨g, cap, cur, he, hb, hh, hnc, hcm, hcs, ht⟩
  · injection he with ha _ hc
    subst ha; subst hc
    exact .inl ⟨by rw [show m = 0 by omega], by omega⟩
  · injection he with ha _ hc
    subst ha; subst hc
    refine .inr ⟨g, c, cur, rfl, hb, hh, by omega, hcm, hcs, ?_⟩
    rw [← ht, List.take_take, Nat.min_eq_left (Nat.mul_le_mul_right _ hm)]
section
variable {P : Program}
end
def QRow (w : World) (base : Nat) (e : TypeId) (size : Nat) (v : Value) (n : Nat) (xs : List Value) : Prop :=
  xs.length = n * size ∧
  ((n = 0 ∧ ∃ A, v = .slice A 0 0 ∧ ∀ a, A = some a → base ≤ a.block ∧ ∃ cur, w.heap[a.block]? = some (.cells cur e (0, 0))) ∨
   ∃ g off cap cur, v = .slice (some ⟨g, off * size, none⟩) n cap ∧ base ≤ g ∧ w.heap[g]? = some (.cells cur e (0, 0)) ∧ n ≤ cap ∧ off + cap ≤ maxLen ∧ cur.size = (off + cap) * size ∧ (cur.toList.drop (off * size)).take (n * size) = xs)
section
variable {w w1 : World} {base n size : Nat} {e : TypeId} {v : Value} {xs : List Value}
end
section
variable {P : Program}
end
namespace Kd
theorem reps_take {α : Type} {R : α → List Value → Prop} {size m : Nat} {ps : List α} {cs : List Value} (h : Reps R size ps cs) (hm : m ≤ ps.length) : Reps R size (ps.take m) (cs.take (m * size)) := by
  refine ⟨by rw [List.length_take, List.length_take, h.1, Nat.min_eq_left hm, Nat.min_eq_left (Nat.mul_le_mul_right _ hm)], fun j p hj => ?_⟩
  rw [List.getElem?_take] at hj
  split at hj
  · rename_i hjm
    have := h.2 j p hj
    have hle : j * size + size ≤ m * size := by rw [← Nat.succ_mul]; exact Nat.mul_le_mul_right _ hjm
    rw [List.drop_take, List.take_take, Nat.min_eq_left (by omega)]
    exact this
  · cases hj
theorem R_take {α : Type} {d : Kd α} {e m n c : Nat} {w : World} {base : Nat} {ok : Nat → Prop} {A : Option Addr} {xs : List α} (h : d.R e w base ok (.slice A n c) xs) (hm : m ≤ xs.length) : d.R e w base ok (.slice A m c) (xs.take m) := by
  obtain ⟨h0, inner, ho, hr⟩ := h
  have hn : n = xs.length := by
    obtain ⟨A', c', he⟩ := own_slice ho
    injection he
  subst hn
  have hb : ∀ x y : Nat, (Value.slice A x c).ownBlock = (Value.slice A y c).ownBlock := by
    intro x y
    cases A <;> rfl
  refine ⟨fun k hk => h0 k (by rw [hb _ m]; exact hk), inner.take (m * d.sz), ?_, ?_⟩
  · rw [List.length_take, Nat.min_eq_left hm]
    exact own_take ho hm
  · rw [hb m xs.length]
    exact reps_take hr hm
def Q {α : Type} (d : Kd α) (e : Nat) (w : World) (base : Nat) (ok : Nat → Prop) (v : Value) (xs : List α) : Prop :=
  (∀ k, v.ownBlock = some k → ok k) ∧ ∃ inner, QRow w base e d.sz v xs.length inner ∧ Reps (d.M w base (fun k => ok k ∧ some k ≠ v.ownBlock)) d.sz xs inner
section
variable {α : Type} {d : Kd α} {e : Nat} {w w1 W : World} {base : Nat} {ok ok' : Nat → Prop} {v : Value} {xs : List α}
end
section
variable {P : Program} {ops : Array Oper} {rest : List Oper} {o : Oper} {a : Act} {Q' : Exit → Act → World → Prop} {Kc : Act → World → Prop} {α : Type}
end
end Kd
namespace Kd
section
variable {α : Type} {d : Kd α} {e e' : Nat} {w w1 W : World} {base : Nat} {ok : Nat → Prop} {u v : Value} {xs : List α}
theorem R_typed (h : d.R e w base ok v xs) : ∀ k, v.ownBlock = some k → ∃ cells, w.heap[k]? = some (.cells cells e (0, 0)) := by
  obtain ⟨inner, ho⟩ := R_own h
  exact fun k hk => own_typed ho k hk
theorem R_elder' (hu : d.R e W base ok u xs) (hbase : ∀ k, v.ownBlock = some k → W.heap.size ≤ k) (hb : Below W.heap.size W w1) : d.R e w1 base (fun k => ok k ∧ some k ≠ v.ownBlock) u xs :=
  R_mono (R_move (R_bound hu) (fun k hk => hb.block k hk.2.2.1)) (fun k hk => ⟨hk.1, fun he => by have := hbase k he.symm; have := hk.2.2.1; omega⟩)
theorem R_new' (h : d.R e w1 W.heap.size ok v xs) (hlt : ∀ k, u.ownBlock = some k → k < W.heap.size) : d.R e w1 W.heap.size (fun k => ok k ∧ some k ≠ u.ownBlock) v xs :=
  R_mono (R_bound h) (fun k hk => ⟨hk.1, fun he => by have := hlt k he.symm; have := hk.2.1; omega⟩)
end
end Kd
namespace Kd
section
variable {α : Type} {d : Kd α} {e base g n cap : Nat} {ok okp : Nat → Prop} {W : World} {xs : List α}
end
end Kd
namespace Kd
section
variable {α : Type} {F : Kd α → Kd α} {sz : Nat} {E : List Nat} {hs : ∀ n, (upto F sz E n).sz = sz} {hE : ∀ n q, q ∈ (upto F sz E n).E → q ∈ E}
end
end Kd
namespace Kd
theorem reps_append {α : Type} {R : α → List Value → Prop} {size : Nat} {ps qs : List α} {cs ds : List Value} (h : Reps R size ps cs) (h' : Reps R size qs ds) : Reps R size (ps ++ qs) (cs ++ ds) := by
  refine ⟨by rw [List.length_append, List.length_append, h.1, h'.1, Nat.add_mul], fun j p hj => ?_⟩
  rcases Nat.lt_or_ge j ps.length with hlt | hge
  · rw [List.getElem?_append_left hlt] at hj
    have hle : j * size + size ≤ cs.length := by rw [h.1, ← Nat.succ_mul]; exact Nat.mul_le_mul_right _ hlt
    rw [List.drop_append_of_le_length (by omega), List.take_append_of_le_length (by rw [List.length_drop]; omega)]
    exact h.2 j p hj
  · rw [List.getElem?_append_right hge] at hj
    have h2 := h'.2 (j - ps.length) p hj
    have hle : ps.length * size ≤ j * size := Nat.mul_le_mul_right _ hge
    rw [List.drop_append, List.drop_eq_nil_of_le (by rw [h.1]; exact hle), List.nil_append, h.1, ← Nat.sub_mul]
    exact h2
section
variable {P : Program} {ops : Array Oper} {rest : List Oper} {o : Oper} {a : Act} {Q : Exit → Act → World → Prop} {α : Type}
theorem R_append_rows (d : Kd α) {Rr : α → List Value → Prop} {w0 W : World} (base : Nat) (hgd : o.guard = none) (s x : Operand) (t e : TypeId) (z : Value) (bytes : Nat)
    (ho : o.op = .call { callee := .builtin .append, args := #[s, x], argTypes := #[t, t] })
    (ht : P.underlying t = some (.slice e)) (hinfo : (P.info? e).map (fun i => (i.zero, i.size, i.bytes)) = some (some z, d.sz, bytes)) (hz : z.cells.size = d.sz) (hs0 : 0 < d.sz) (hb0 : 0 < bytes)
    (v : Value) (xs ys : List α) (A : Option Addr) (m c : Nat) (ok okp : Nat → Prop) (hs : a.eval s = v) (hx : a.eval x = .slice A m c)
    (HO : d.R e W base ok v xs) (HR : ReadsRow Rr d.sz W A m ys) (hKM : ∀ x cs, Rr x cs → d.M W base okp x cs) (hokp : ∀ k, okp k → ok k ∧ some k ≠ v.ownBlock) (hfresh : ∀ k, W.heap.size ≤ k → ok k)
    (HB : Below base w0 W) (hbase : base ≤ W.heap.size) (hl : (xs.length + m) * bytes ≤ 140737488355328)
    (h : ∀ v1 w1, d.R e w1 base ok v1 (xs ++ ys) → Below base w0 w1 → W.grownBy w1 v.ownBlock → (v1.ownBlock = v.ownBlock ∨ ∃ b, v1.ownBlock = some b ∧ W.heap.size ≤ b) → wpList P ops Q rest (a.put o.dst v1) w1) :
    wpList P ops Q (o :: rest) a W := by
  obtain ⟨i0, hi, hzz⟩ := Option.map_eq_some_iff.1 hinfo
  simp only [Prod.mk.injEq] at hzz
  obtain ⟨hz0, hz1, hz2⟩ := hzz
  have hm : ys.length = m := HR.1
  have hlen : xs.length + m ≤ 140737488355328 := Nat.le_trans (Nat.le_mul_of_pos_right _ hb0) hl
  obtain ⟨hok, inner, hown, hr⟩ := HO
  have hrun : ∃ v1 w1, (Builtin.append_ #[t, t] o.type #[v, .slice A m c]).run P W = .ok v1 w1 ∧ d.R e w1 base ok v1 (xs ++ ys) ∧ W.grownBy w1 v.ownBlock ∧ (v1.ownBlock = v.ownBlock ∨ ∃ b, v1.ownBlock = some b ∧ W.heap.size ≤ b) := by
    rcases A with _ | ad
    · have h0 : m = 0 := by
        rcases Nat.eq_zero_or_pos m with h0 | h0
        · exact h0
        · obtain ⟨ad, h, _⟩ := HR.2.2 h0
          cases h
      subst h0
      obtain rfl : ys = [] := List.eq_nil_of_length_eq_zero hm
      refine ⟨v, W, ?_, by rw [List.append_nil]; exact ⟨hok, inner, hown, hr⟩, World.grownBy.refl W _, .inl rfl⟩
      rcases hown.2 with ⟨rfl, hn⟩ | ⟨g, cap, cur, rfl, _, _, hnc, _⟩
      · simp [Builtin.append_, run_underlying ht, sizeOf, typeInfo, hi, Builtin.lenOf, Builtin.firstCells]
      · simp [Builtin.append_, run_underlying ht, sizeOf, typeInfo, hi, Builtin.lenOf, Builtin.firstCells, hnc, storeCells]
    · obtain ⟨news, hnr, hnc⟩ := ReadsRow.inner_ HR
      have hnM : Reps (d.M W base okp) d.sz ys news := hnr.imp_ (fun p c hp => hKM p c hp)
      have hone : ∀ u ∈ news, u.oneCell' = true := by
        intro u hu
        obtain ⟨q, hq, rfl⟩ := List.mem_iff_getElem.1 hu
        have hql : q / d.sz < ys.length := by
          rw [Nat.div_lt_iff_lt_mul hs0]
          rw [← hnM.1]
          exact hq
        have hc := hnM.2 (q / d.sz) _ (List.getElem?_eq_getElem hql)
        refine d.K_one (d.K_of_M hc) _ ?_
        rw [List.mem_iff_getElem?]
        refine ⟨q % d.sz, ?_⟩
        rw [List.getElem?_take, if_pos (Nat.mod_lt _ hs0), List.getElem?_drop, Nat.mul_comm, Nat.div_add_mod, List.getElem?_eq_getElem hq]
      obtain ⟨v1, w1, hrun, h2, hg, _, hat⟩ := run_append_own_at (P := P) W base t o.type e i0 z d.sz bytes ht hi hz0 hz1 hz2 hz hs0 v xs.length inner hown ad m c news (by rw [hnM.1, hm]) hnc hone (by simp only [maxLen]; omega) hl hbase
      have hat' : v1.ownBlock = v.ownBlock ∨ ∃ b, v1.ownBlock = some b ∧ W.heap.size ≤ b := by
        rcases hat with hat | hat
        · exact .inl hat
        · exact .inr ⟨_, hat, Nat.le_refl _⟩
      have hne : ∀ k, some k ≠ v.ownBlock → k < W.heap.size → some k ≠ v1.ownBlock := by
        intro k hk hlt
        rcases hat' with hat | ⟨b, hb, hle⟩
        · rw [hat]; exact hk
        · rw [hb]
          intro he
          injection he with he
          omega
      have step : ∀ {q : α} {c : List Value} {o : Nat → Prop}, d.M W base o q c → (∀ k, o k → ok k ∧ some k ≠ v.ownBlock) → d.M w1 base (fun k => ok k ∧ some k ≠ v1.ownBlock) q c := by
        intro q c o hq ho
        have h1 := d.M_move (w1 := w1) (fun k hk => hg.block k hk.2.2.1 (ho k hk.1).2) (d.M_bound hq)
        exact d.M_mono (fun k hk => ⟨(ho k hk.1).1, hne k (ho k hk.1).2 hk.2.2.1⟩) h1
      refine ⟨v1, w1, hrun, ⟨fun k hk => ?_, inner ++ news, by rw [List.length_append, hm]; exact h2, reps_append (hr.imp_ (fun _ _ hq => step hq (fun _ hk => hk))) (hnM.imp_ (fun _ _ hq => step hq hokp))⟩, hg, hat'⟩
      rcases hat' with hat | ⟨b, hb, hle⟩
      · exact hok k (hat ▸ hk)
      · rw [hb] at hk
        injection hk with hk
        exact hfresh k (by omega)
  obtain ⟨v1, w1, hr1, h1, hg, hat⟩ := hrun
  refine wpList_plain hgd fun K hK => ?_
  unfold Oper.wp execOp
  simp only [ho, resolve, invoke, builtin, Sem.run_bind, Sem.run_pure, Result.andThen_ok, List.map_toArray, List.map_cons, List.map_nil, hs, hx, hr1]
  exact hK _ _ (h v1 w1 h1 (HB.grown hg hbase (own_base hown)) hg hat)
end
end Kd
namespace Kd
section
variable {P : Program} {ops : Array Oper} {rest : List Oper} {o : Oper} {a : Act} {Q : Exit → Act → World → Prop} {α : Type}
end
end Kd
namespace Kd
section
variable {α : Type} {k : Kd α} {w : World} {A : Option Addr} {xs : List α} {m c : Nat}
end
end Kd
section
variable {P : Program}
end
theorem string_of_reads {P : Program} {w : World} {src dst e : TypeId} {A : Option Addr} {n c : Nat} {xs : List Int} (hs : P.underlying src = some (.slice e)) (he : P.underlying e = some (.int .u8)) (hd : P.underlying dst = some .string)
    (h : ReadsInt w .u8 A n xs) : (convert src dst (.slice A n c)).run P w = .ok (.string (strOfNums xs)) w := by
  have hn : xs.length = n := h.1
  rcases A with _ | ad
  · have h0 : n = 0 := by
      rcases Nat.eq_zero_or_pos n with h0 | h0
      · exact h0
      · obtain ⟨ad, h', _⟩ := h.2.2 h0
        cases h'
    subst h0
    obtain rfl : xs = [] := List.eq_nil_of_length_eq_zero hn
    exact run_convert_bytes_nil w src e hs he 0 c dst hd
  · have hl : (loadCells ad n).run P w = .ok (xs.map (Value.int .u8)).toArray w := by
      have := run_loadCells_list (P := P) w ad (xs.map (Value.int .u8)) (fun j v hj => by
        have hjl : j < xs.length := by
          rcases Nat.lt_or_ge j xs.length with h' | h'
          · exact h'
          · rw [List.getElem?_eq_none (by rw [List.length_map]; exact h')] at hj
            cases hj
        obtain ⟨ad', he', hc⟩ := h.2.2 (by omega)
        injection he' with he'
        subst he'
        rw [hc j (by omega)]
        rw [List.getElem?_map, List.getElem?_eq_getElem hjl] at hj
        simp at hj
        subst hj
        simp [List.getD_eq_getElem?_getD, List.getElem?_eq_getElem hjl])
      simpa [hn] using this
    rw [run_convert_bytes_string w src dst e _ n c hs he hd, run_bytesToString w ad n c xs hl, foldl_push_bytes]
    simp [strOfNums, ByteArray.empty, ByteArray.emptyWithCapacity]
    rfl
theorem Kd.C_string {P : Program} {w : World} {src dst e : TypeId} {A : Option Addr} {n c : Nat} {xs : List Int} (hs : P.underlying src = some (.slice e)) (he : P.underlying e = some (.int .u8)) (hd : P.underlying dst = some .string)
    (h : (Kd.int .u8).C w A n xs) : (convert src dst (.slice A n c)).run P w = .ok (.string (strOfNums xs)) w :=
  string_of_reads hs he hd (Kd.reads_of_C (enc := Value.int .u8) (d := (0 : Int)) (h1 := fun _ => rfl) h)
theorem below_size {w W : World} (h : Below w.heap.size w W) : w.heap.size ≤ W.heap.size := h.size
theorem below_step {w W w2 : World} (h : Below w.heap.size w W) (k : Below W.heap.size W w2) : Below w.heap.size w w2 := below_then h h.size k
theorem own_reads' {W : World} {base n c : Nat} {e : TypeId} {k : IntKind} {A : Option Addr} {xs : List Int} (h : W.ownsRow base e 1 (.slice A n c) n (nums k xs)) : ReadsInt W k A n xs := by
  obtain ⟨A', c', he, hr⟩ := own_reads h
  injection he with hA
  rw [hA]; exact hr
theorem ReadsInt.nil (W : World) (k : IntKind) : ReadsInt W k none ([] : List Int).length [] := ⟨rfl, by simp, fun h => absurd h (Nat.lt_irrefl 0)⟩
theorem ReadsInt.drewN {W : World} {k : IntKind} {A : Option Addr} {n : Nat} {xs : List Int} (h : ReadsInt W k A n xs) (m : Nat) : ReadsInt (W.drewN m) k A n xs := h
theorem ReadsInt.allocS {W : World} {k : IntKind} {A : Option Addr} {n : Nat} {xs : List Int} (h : ReadsInt W k A n xs) (o : Obj) : ReadsInt (W.alloc o) k A n xs := h.below (below_alloc (Below.refl _ _) o)
theorem below_set {w W : World} {g j : Nat} {v : Value} (h : Below w.heap.size w W) (hg : w.heap.size ≤ g) : Below w.heap.size w (W.setCell ⟨g, j, none⟩ v) := h.setCell hg _
theorem ReadsOf.nil {α : Type} (enc : α → Value) (d : α) (W : World) : ReadsOf enc d W none ([] : List α).length [] := ⟨rfl, by simp, fun h => absurd h (Nat.lt_irrefl 0)⟩
theorem ReadsOf.drewN {α : Type} {enc : α → Value} {d : α} {W : World} {A : Option Addr} {n : Nat} {xs : List α} (h : ReadsOf enc d W A n xs) (m : Nat) : ReadsOf enc d (W.drewN m) A n xs := h
theorem ReadsOf.allocS {α : Type} {enc : α → Value} {d : α} {W : World} {A : Option Addr} {n : Nat} {xs : List α} (h : ReadsOf enc d W A n xs) (o : Obj) : ReadsOf enc d (W.alloc o) A n xs := h.below (below_alloc (Below.refl _ _) o)
theorem blk_put {w : World} {g : Nat} {t : TypeId} {cs cs' : Array Value} (h : w.heap[g]? = some (.cells cs t (0, 0))) (i : Nat) (u : Value) (e : cs.setIfInBounds i u = cs') : (w.setCell ⟨g, i, none⟩ u).heap[g]? = some (.cells cs' t (0, 0)) := e ▸ blk_set h i u
theorem own_cap {W : World} {base n c : Nat} {e : TypeId} {size : Nat} {A : Option Addr} {xs : List Value} (h : W.ownsRow base e size (.slice A n c) n xs) : n ≤ c := by
  rcases h.2 with ⟨h1, h2⟩ | ⟨g, cap, cur, h1, _, _, h2, _⟩
  · injection h1 with _ h3 h4
    omega
  · injection h1 with _ _ h4
    omega
theorem below_drew1 {base : Nat} {w W : World} (h : Below base w W) : Below base w W.drew := h.drew
namespace Kd
section
variable {α β : Type} {d : Kd α} {d' : Kd β} {e e' base base' n : Nat} {ok ok' : Nat → Prop} {w W w1 W1 : World} {v u : Value} {xs : List α} {ys : List β} {A : Option Addr} {c : Nat}
end
section
variable {α : Type} {enc : α → Value} {h1 : ∀ x, (enc x).oneCell' = true} {w W : World} {A : Option Addr} {n g : Nat} {xs : List α}
end
end Kd
namespace Kd
section
variable {α : Type} {d : Kd α} {e base g : Nat} {ok : Nat → Prop} {w w1 : World} {v : Value} {xs : List α} {o : Obj}
end
end Kd
section
variable {P : Program} {ops : Array Oper} {rest : List Oper} {o : Oper} {a : Act} {Q : Exit → Act → World → Prop}
theorem box_event {W : World} (hgd : o.guard = none) {N : Tmp} (_hd : o.dst = some N) {cs : Array Value} {t : TypeId}
    (hrun : (execOp a.eval o).run P W = .ok (.value (.pointer (some ⟨W.heap.size, 0, none⟩))) (W.alloc (.cells cs t (0, 0))))
    (h : ∀ g, g = W.heap.size → ∀ w1, w1.heap[g]? = some (.cells cs t (0, 0)) → Below W.heap.size W w1 → wpList P ops Q rest (a.put o.dst (.pointer (some ⟨g, 0, none⟩))) w1) : wpList P ops Q (o :: rest) a W :=
  Kd.event_run hgd hrun (h _ rfl _ (blk_new W _) (below_alloc (Below.refl _ _) _))
end
namespace Kd
section
variable {α : Type} {enc : α → Value} {h1 : ∀ x, (enc x).oneCell' = true} {e base g n cap : Nat} {ok : Nat → Prop} {W : World} {xs : List α}
theorem R_celln (d : α) (h : (scalar enc h1).R e W base ok (.slice (some ⟨g, 0, none⟩) n cap) xs) (i : Int) (h0 : 0 ≤ i) (hi : i < n) : W.cell? ⟨g, i.toNat, none⟩ = some (enc (rdOf d xs i)) ∧ W.frozen? ⟨g, i.toNat, none⟩ = false := by
  obtain ⟨rfl, _⟩ := R_reads' h
  exact R_cell d h i h0 hi
end
end Kd
section
variable {P : Program} {ops : Array Oper} {rest : List Oper} {o : Oper} {a : Act} {Q : Exit → Act → World → Prop}
theorem store_event {W w1 : World} (hgd : o.guard = none) {t : TypeId} {p : Tmp} {v : Operand} (_ho : o.op = .store t (.tmp p) v) (hN : o.dst = none)
    (hrun : (execOp a.eval o).run P W = .ok .skip w1) (h : ∀ w', w' = w1 → wpList P ops Q rest a w') : wpList P ops Q (o :: rest) a W := by
  refine wpList_plain hgd fun K hK => ?_
  unfold Oper.wp
  rw [hrun]
  show K (a.put o.dst undef) w1
  rw [hN]
  exact hK _ _ (h _ rfl)
end
namespace Kd
section
variable {α : Type} {enc : α → Value} {h1 : ∀ x, (enc x).oneCell' = true} {e base g n cap : Nat} {ok : Nat → Prop} {W : World} {xs : List α}
theorem R_putg (h : (scalar enc h1).R e W base ok (.slice (some ⟨g, 0, none⟩) n cap) xs) (i : Int) (x : α) : (scalar enc h1).R e (W.setCell ⟨g, i.toNat, none⟩ (enc x)) base ok (.slice (some ⟨g, 0, none⟩) n cap) (xs.set i.toNat x) ∧ W.grownBy (W.setCell ⟨g, i.toNat, none⟩ (enc x)) (some g) := by
  obtain ⟨rfl, _⟩ := R_reads' h
  exact R_put h i x
end
end Kd
section
variable {P : Program} {ops : Array Oper} {rest : List Oper} {o : Oper} {a : Act} {Q : Exit → Act → World → Prop} {W : World}
theorem gate_dst {N : Tmp} (_hN : o.dst = some N) (h : wpList P ops Q (o :: rest) a W) : wpList P ops Q (o :: rest) a W := h
theorem gate_store {t : TypeId} {p : Tmp} {v : Operand} (_ho : o.op = .store t (.tmp p) v) (h : wpList P ops Q (o :: rest) a W) : wpList P ops Q (o :: rest) a W := h
end
section
variable {P : Program} {ops : Array Oper} {o : Oper} {a : Act} {Q : Exit → Act → World → Prop} {Kc : Act → World → Prop}
theorem event_step {W w1 : World} {v : Value} (hw : Region.wanted o (yielded ops a.tmps) = true) (hrun : (execOp a.eval o).run P W = .ok (.value v) w1) (h : Kc (a.put o.dst v) w1) : if Region.wanted o (yielded ops a.tmps) = true then Oper.wp P o a W Kc Q else Kc (a.put o.dst undef) W := by
  rw [if_pos hw]
  unfold Oper.wp
  rw [hrun]
  exact h
namespace Kd
variable {α : Type}
theorem R_lit_step (d : Kd α) {w0 W : World} (base e : Nat) (hw : Region.wanted o (yielded ops a.tmps) = true) {N : Tmp} (_hd : o.dst = some N) {xs : List α} {inner : List Value} {ok okp : Nat → Prop}
    (hrun : (execOp a.eval o).run P W = .ok (.value (.slice (some ⟨W.heap.size, 0, none⟩) xs.length xs.length)) (W.alloc (.cells inner.toArray e)))
    (hrep : Reps (d.M W base okp) d.sz xs inner) (hok : ∀ k, okp k → ok k) (hfresh : ok W.heap.size) (HB : Below base w0 W) (hbase : base ≤ W.heap.size) (hm : xs.length ≤ 9223372036854775807)
    (h : ∀ v1 w1, d.R e w1 base ok v1 xs → Below base w0 w1 → W.grownBy w1 none → (∃ b, v1.ownBlock = some b ∧ W.heap.size ≤ b) → Kc (a.put o.dst v1) w1) : if Region.wanted o (yielded ops a.tmps) = true then Oper.wp P o a W Kc Q else Kc (a.put o.dst undef) W := by
  refine event_step hw hrun (h _ _ ⟨fun k hk => ?_, inner, ?_, ?_⟩ (HB.alloc hbase _) (World.grownBy_alloc W _ none) ⟨W.heap.size, by simp [Value.ownBlock], Nat.le_refl _⟩)
  · have : W.heap.size = k := by simpa [Value.ownBlock] using hk
    subst this
    exact hfresh
  · have h2 := World.ownsRow_lit (base := base) (e := e) (size := d.sz) W inner.toArray xs.length hbase (by simpa [maxLen] using hm) (by simpa using hrep.1)
    simpa using h2
  · refine hrep.imp_ (fun p c hp => d.M_mono (fun k hk => ⟨hok k hk.1, fun he => ?_⟩) (M_below (d.M_bound hp) (below_alloc (Below.refl _ _) _)))
    have h3 : k = W.heap.size := by simpa [Value.ownBlock] using he
    have := hk.2.2.1
    omega
theorem R_make_step (d : Kd α) {w0 W : World} (base e : Nat) (hw : Region.wanted o (yielded ops a.tmps) = true) {N : Tmp} (hd : o.dst = some N) (t : TypeId) (x y : Operand) (ho : o.op = .makeSlice t x y) (n : Int) (hx : a.eval x = .int .i64 n) (hy : a.eval y = .int .i64 n)
    (ht : P.underlying t = some (.slice e)) (z : Value) (bytes : Nat) (hinfo : (P.info? e).map (fun i => (i.zero, i.size, i.bytes)) = some (some z, d.sz, bytes)) (hz : z.cells.size = d.sz) (hs0 : 0 < d.sz) (hb0 : 0 < bytes)
    (z0 : α) {ok okp : Nat → Prop} (hzero : d.M W base okp z0 z.cells.toList) (hok : ∀ k, okp k → ok k) (hfresh : ok W.heap.size) (h0 : 0 ≤ n) (hl : n.toNat * bytes ≤ 281474976710656) (HB : Below base w0 W) (hbase : base ≤ W.heap.size)
    (h : ∀ v1 w1, d.R e w1 base ok v1 (List.replicate n.toNat z0) → Below base w0 w1 → W.grownBy w1 none → (∃ b, v1.ownBlock = some b ∧ W.heap.size ≤ b) → Kc (a.put o.dst v1) w1) : if Region.wanted o (yielded ops a.tmps) = true then Oper.wp P o a W Kc Q else Kc (a.put o.dst undef) W := by
  obtain ⟨m, rfl⟩ := Int.eq_ofNat_of_zero_le h0
  simp only [Int.toNat_natCast] at hl h
  obtain ⟨i0, hi, hzz⟩ := Option.map_eq_some_iff.1 hinfo
  simp only [Prod.mk.injEq] at hzz
  obtain ⟨hz0, hz1, hz2⟩ := hzz
  have hm : m ≤ 281474976710656 := Nat.le_trans (Nat.le_mul_of_pos_right _ hb0) hl
  have hr := run_make (P := P) W t e i0 z ht hi hz0 .i64 .i64 (m : Int) (m : Int) (by omega) (by omega)
    (by
      have h3 : ((i0.bytes * m : Nat) : Int) ≤ 281474976710656 := by rw [hz2, Nat.mul_comm]; omega
      rwa [Int.natCast_mul] at h3) (by omega)
  simp only [Int.toNat_natCast] at hr
  rw [hz1] at hr
  refine R_lit_step d base e hw hd (xs := List.replicate m z0) (inner := (madeCells z.cells (m * d.sz)).toList) (okp := okp) (ok := ok) ?_ (reps_made hz hs0 hzero m) hok hfresh HB hbase (by simp; omega) h
  simp [execOp, ho, hx, hy, hr]
end Kd
end
section
variable {P : Program} {tmps : Array Value} {w : World}
end
namespace Kd
section
variable {P : Program} {α : Type}
end
section
variable {P : Program} {ops : Array Oper} {rest : List Oper} {o : Oper} {a : Act} {Q : Exit → Act → World → Prop} {Kc : Act → World → Prop} {α : Type}
end
end Kd
end Go.Proofs.YtbnonnogkgbpiaaDoorW.PrintWords
end
section
namespace Go.Proofs.YtbnonnogkgbpiaaDoorW.PrintLast
section
variable {P : Program} {ops : Array Oper} {Q : Exit → Act → World → Prop} {md : Region.Mode} {S : World → Prop} {ds : List Nat}
def Region.reachB (md : Region.Mode) (ops : Array Oper) (i : Nat) : Nat → Nat → Bool
  | 0, _ => false
  | fuel + 1, d => match ops[d]? with
    | some o => o.after.any fun e => Region.binds md e && (e.on == i || Region.reachB md ops i fuel e.on)
    | none => false
def Region.closedB (md : Region.Mode) (ops : Array Oper) (listed : Array Bool) : Bool :=
  (List.range ops.size).all fun j => !listed.getD j false || match ops[j]? with
    | some o => o.after.all fun e => !Region.binds md e || listed.getD e.on false
    | none => true
def Region.lastB (md : Region.Mode) (ops : Array Oper) (listed : Array Bool) (ds : List Nat) (i : Nat) : Bool :=
  ds.all fun d => listed.getD d true || Region.reachB md ops i ops.size d
def ListedClosed (md : Region.Mode) (ops : Array Oper) (listed : Array Bool) : Prop :=
  ∀ j oj, ops[j]? = some oj → listed.getD j false = true → ∀ e ∈ oj.after, Region.binds md e = true → listed.getD e.on false = true
theorem Region.closedB_spec {listed : Array Bool} (h : Region.closedB md ops listed = true) : ListedClosed md ops listed := by
  intro j oj hj hl e he hb
  have hlt : j < ops.size := (Array.getElem?_eq_some_iff.1 hj).1
  have h1 := List.all_eq_true.1 h j (List.mem_range.2 hlt)
  simp only [hl, hj, Bool.not_true, Bool.false_or] at h1
  have h2 := Array.all_eq_true_iff_forall_mem.1 h1 e he
  simpa [hb] using h2
theorem ListedClosed.set {listed : Array Bool} {i : Nat} (h : ListedClosed md ops listed) (hi : i ∈ Region.ready md ops listed) : ListedClosed md ops (listed.setIfInBounds i true) := by
  obtain ⟨_, oi, hoi, hall⟩ := mem_ready.1 hi
  intro j oj hj hl e he hb
  by_cases hij : i = j
  · subst hij
    have : oj = oi := Option.some.inj (hj.symm.trans hoi)
    subst this
    exact getD_set_true (hall e he hb)
  · rw [getD_set_ne false hij] at hl
    exact getD_set_true (h j oj hj hl e he hb)
theorem Region.reach_listed {listed : Array Bool} {i : Nat} (hc : ListedClosed md ops listed) : ∀ (fuel d : Nat), Region.reachB md ops i fuel d = true → listed.getD d false = true → listed.getD i false = true
  | 0, _, h, _ => by simp [Region.reachB] at h
  | fuel + 1, d, h, hl => by
    unfold Region.reachB at h
    cases ho : ops[d]? with
    | none => rw [ho] at h; simp at h
    | some o =>
      rw [ho] at h
      obtain ⟨e, he, h1⟩ := Array.any_eq_true'.1 h
      simp only [Bool.and_eq_true, Bool.or_eq_true, beq_iff_eq] at h1
      have hle := hc d o ho hl e he h1.1
      rcases h1.2 with h2 | h2
      · rw [← h2]; exact hle
      · exact Region.reach_listed hc fuel e.on h2 hle
theorem Region.reach_not_ready {listed : Array Bool} {i d fuel : Nat} (hc : ListedClosed md ops listed) (hr : Region.reachB md ops i fuel d = true) (hun : listed.getD i true = false) : d ∉ Region.ready md ops listed := by
  intro hd
  obtain ⟨_, o, ho, hall⟩ := mem_ready.1 hd
  have hi : listed.getD i false = true := by
    cases fuel with
    | zero => simp [Region.reachB] at hr
    | succ n =>
      unfold Region.reachB at hr
      rw [ho] at hr
      obtain ⟨e, he, h1⟩ := Array.any_eq_true'.1 hr
      simp only [Bool.and_eq_true, Bool.or_eq_true, beq_iff_eq] at h1
      have hle := hall e he h1.1
      rcases h1.2 with h2 | h2
      · rw [← h2]; exact hle
      · exact Region.reach_listed hc n e.on h2 hle
  rcases Nat.lt_or_ge i listed.size with h' | h'
  · simp [h'] at hun hi
    rw [hun] at hi
    cases hi
  · simp [Array.getElem?_eq_none h'] at hun
def wpAnyLast (P : Program) (md : Region.Mode) (ops : Array Oper) (Q : Exit → Act → World → Prop) (S : World → Prop) (ds : List Nat) : Nat → Array Bool → Act → World → Prop
  | 0, listed, a, w => Region.ready md ops listed = [] ∧ Q .normal a w
  | fuel + 1, listed, a, w =>
    (Region.ready md ops listed = [] → Q .normal a w) ∧
    ∀ i ∈ Region.ready md ops listed, wpOp P ops Q i (fun a' w' => (i ∉ ds → S w → S w') ∧ wpAnyLast P md ops Q S ds fuel (listed.setIfInBounds i true) a' w') a w
theorem wpAny_of_last : ∀ (fuel : Nat) (listed : Array Bool) (a : Act) (w : World), wpAnyLast P md ops Q S ds fuel listed a w → wpAny P md ops Q fuel listed a w
  | 0, _, _, _, h => h
  | fuel + 1, _, _, _, h => ⟨h.1, fun i hi => wpOp_mono (fun a' w' h' => wpAny_of_last fuel _ a' w' h'.2) (h.2 i hi)⟩
theorem wpAnyLast_first {i : Nat} {oi : Oper} {v : Value} (hi : ops[i]? = some oi) (hsel : ∀ (j : Nat) (o : Oper) cs b, ops[j]? = some o → o.op ≠ .select cs b)
    (hQ : ∀ c a w, Q (.panic c) (a.put oi.dst v) w → Q (.panic c) a w) (n : Nat) :
    ∀ (fuel : Nat) (listed : Array Bool) (a : Act) (w : World),
      (∀ j oj, ops[j]? = some oj → j ≠ i → listed.getD j true = false → (∀ e ∈ oj.after, Region.binds md e = true → e.on ≠ i) → oi.apart ops oj = true) →
      ListedClosed md ops listed → (∀ d ∈ ds, listed.getD d true = false → Region.reachB md ops i n d = true) →
      i ∈ Region.ready md ops listed → YieldsIf P ops S oi v a → S w →
      wpAnyLast P md ops Q S ds fuel (listed.setIfInBounds i true) (a.put oi.dst v) w → wpAnyLast P md ops Q S ds (fuel + 1) listed a w := by
  intro fuel
  induction fuel with
  | zero =>
    intro listed a w _ _ _ hr hy hS H
    refine ⟨fun h => (by rw [h] at hr; cases hr), fun j hj => ?_⟩
    by_cases hji : j = i
    · subst hji; exact hy.wpOp hi hS ⟨fun _ h => h, H⟩
    · have := ready_mono hj hji
      rw [H.1] at this
      cases this
  | succ fuel ih =>
    intro listed a w hfree hc hd hr hy hS H
    refine ⟨fun h => (by rw [h] at hr; cases hr), fun j hj => ?_⟩
    by_cases hji : j = i
    · subst hji; exact hy.wpOp hi hS ⟨fun _ h => h, H⟩
    · have h1 := H.2 j (ready_mono hj hji)
      obtain ⟨hjun, oj, hoj, hall⟩ := mem_ready.1 hj
      have hiun := (mem_ready.1 hr).1
      have hnot : ∀ e ∈ oj.after, Region.binds md e = true → e.on ≠ i := fun e he hb heq => by
        have h1 := hall e he hb
        rw [heq] at h1
        rcases Nat.lt_or_ge i listed.size with h' | h'
        · simp [h'] at hiun h1; rw [hiun] at h1; cases h1
        · simp [Array.getElem?_eq_none h'] at h1
      have hjd : j ∉ ds := fun hm => Region.reach_not_ready hc (hd j hm hjun) hiun hj
      have h2 := wpOp_putIf hoj (hfree j oj hoj hji hjun hnot) (fun cs b => hsel i oi cs b hi) (fun cs b => hsel j oj cs b hoj) hQ hy h1
      have hfree' : ∀ k ok, ops[k]? = some ok → k ≠ i → (listed.setIfInBounds j true).getD k true = false →
          (∀ e ∈ ok.after, Region.binds md e = true → e.on ≠ i) → oi.apart ops ok = true := fun k ok hk hki hun hno => by
        refine hfree k ok hk hki ?_ hno
        by_cases hjk : j = k
        · subst hjk; exact hjun
        · rw [getD_set_ne true hjk] at hun; exact hun
      have hd' : ∀ d ∈ ds, (listed.setIfInBounds j true).getD d true = false → Region.reachB md ops i n d = true := fun d hm hun => by
        refine hd d hm ?_
        by_cases hjk : j = d
        · subst hjk; exact hjun
        · rw [getD_set_ne true hjk] at hun; exact hun
      refine wpOp_mono (fun a' w' h3 => ⟨h3.2.1, ih (listed.setIfInBounds j true) a' w' hfree' (hc.set hj) hd' (ready_mono hr (Ne.symm hji)) h3.1 (h3.2.1 hjd hS) ?_⟩) h2
      rw [Array.setIfInBounds_comm _ _ hji]
      exact h3.2.2
theorem wpAnyLast_any {i : Nat} {oi : Oper} {v : Value} (hi : ops[i]? = some oi) (hsel : ∀ (j : Nat) (o : Oper) cs b, ops[j]? = some o → o.op ≠ .select cs b)
    (hQ : ∀ c a w, Q (.panic c) (a.put oi.dst v) w → Q (.panic c) a w) :
    ∀ (fuel : Nat) (listed : Array Bool) (a : Act) (w : World),
      (∀ j oj, ops[j]? = some oj → j ≠ i → listed.getD j true = false → (∀ e ∈ oj.after, Region.binds md e = true → e.on ≠ i) → oi.apart ops oj = true) →
      i ∈ Region.ready md ops listed → Yields P ops oi v a →
      wpAnyLast P md ops Q S ds fuel (listed.setIfInBounds i true) (a.put oi.dst v) w → wpAnyLast P md ops Q S ds (fuel + 1) listed a w := by
  intro fuel
  induction fuel with
  | zero =>
    intro listed a w _ hr hy H
    refine ⟨fun h => (by rw [h] at hr; cases hr), fun j hj => ?_⟩
    by_cases hji : j = i
    · subst hji; exact (hy.yieldsIf (S := fun _ => True)).wpOp hi trivial ⟨fun _ h => h, H⟩
    · have := ready_mono hj hji
      rw [H.1] at this
      cases this
  | succ fuel ih =>
    intro listed a w hfree hr hy H
    refine ⟨fun h => (by rw [h] at hr; cases hr), fun j hj => ?_⟩
    by_cases hji : j = i
    · subst hji; exact (hy.yieldsIf (S := fun _ => True)).wpOp hi trivial ⟨fun _ h => h, H⟩
    · have h1 := H.2 j (ready_mono hj hji)
      obtain ⟨hjun, oj, hoj, hall⟩ := mem_ready.1 hj
      have hiun := (mem_ready.1 hr).1
      have hnot : ∀ e ∈ oj.after, Region.binds md e = true → e.on ≠ i := fun e he hb heq => by
        have h1 := hall e he hb
        rw [heq] at h1
        rcases Nat.lt_or_ge i listed.size with h' | h'
        · simp [h'] at hiun h1; rw [hiun] at h1; cases h1
        · simp [Array.getElem?_eq_none h'] at h1
      have h2 := wpOp_put hoj (hfree j oj hoj hji hjun hnot) (fun cs b => hsel i oi cs b hi) (fun cs b => hsel j oj cs b hoj) hQ hy h1
      have hfree' : ∀ k ok, ops[k]? = some ok → k ≠ i → (listed.setIfInBounds j true).getD k true = false →
          (∀ e ∈ ok.after, Region.binds md e = true → e.on ≠ i) → oi.apart ops ok = true := fun k ok hk hki hun hno => by
        refine hfree k ok hk hki ?_ hno
        by_cases hjk : j = k
        · subst hjk; exact hjun
        · rw [getD_set_ne true hjk] at hun; exact hun
      refine wpOp_mono (fun a' w' h3 => ⟨h3.2.1, ih (listed.setIfInBounds j true) a' w' hfree' (ready_mono hr (Ne.symm hji)) h3.1 ?_⟩) h2
      rw [Array.setIfInBounds_comm _ _ hji]
      exact h3.2.2
theorem wpAnyLast_take {i : Nat} {oi : Oper} {v : Value} {fuel : Nat} {listed : Array Bool} {a : Act} {w : World} (hi : ops[i]? = some oi)
    (hs : Region.noSelect ops = true) (hf : Region.free md ops listed i = true) (hr : (Region.ready md ops listed).contains i = true)
    (hc : Region.closedB md ops listed = true) (hl : Region.lastB md ops listed ds i = true)
    (hQ : ∀ c a w, Q (.panic c) (a.put oi.dst v) w → Q (.panic c) a w) (hy : YieldsIf P ops S oi v a) (hS : S w)
    (h : wpAnyLast P md ops Q S ds fuel (listed.setIfInBounds i true) (a.put oi.dst v) w) : wpAnyLast P md ops Q S ds (fuel + 1) listed a w :=
  wpAnyLast_first hi (Region.noSelect_spec hs) hQ ops.size fuel listed a w (Region.free_spec hi hf) (Region.closedB_spec hc)
    (fun d hm hun => by have := List.all_eq_true.1 hl d hm; rw [hun] at this; simpa using this) (by simpa using hr) hy hS h
theorem wpAnyLast_all {rs : List Nat} {fuel : Nat} {listed : Array Bool} {a : Act} {w : World} (hr : Region.ready md ops listed = rs) (hne : rs ≠ [])
    (h : ∀ i ∈ rs, wpOp P ops Q i (fun a' w' => (i ∉ ds → S w → S w') ∧ wpAnyLast P md ops Q S ds fuel (listed.setIfInBounds i true) a' w') a w) : wpAnyLast P md ops Q S ds (fuel + 1) listed a w :=
  ⟨fun h0 => absurd (hr ▸ h0) hne, hr ▸ h⟩
theorem wpAnyLast_done {listed : Array Bool} {a : Act} {w : World} (hr : Region.ready md ops listed = []) (h : Q .normal a w) :
    ∀ fuel, wpAnyLast P md ops Q S ds fuel listed a w
  | 0 => ⟨hr, h⟩
  | _ + 1 => ⟨fun _ => h, by rw [hr]; simp⟩
theorem wp_region_last {id : Nat} {a : Act} {w : World} (hm : P.follows .mixedOrders = true)
    (h : wpAnyLast P .any ops Q S ds ops.size (Array.replicate ops.size false) a { w with drawn := w.drawn + 1 }) : (Code.region id ops true).wp P Q a w :=
  wp_region_any hm (wpAny_of_last _ _ _ _ h)
end
section
variable {P : Program} {ops : Array Oper} {Q : Exit → Act → World → Prop} {md : Region.Mode} {S : World → Prop} {ds : List Nat}
def AllReadyL (P : Program) (md : Region.Mode) (ops : Array Oper) (Q : Exit → Act → World → Prop) (S : World → Prop) (ds : List Nat) (fuel : Nat) (listed : Array Bool) (a : Act) (w : World) (rs : List Nat) : Prop :=
  ∀ i ∈ rs, wpOp P ops Q i (fun a' w' => (i ∉ ds → S w → S w') ∧ wpAnyLast P md ops Q S ds fuel (listed.setIfInBounds i true) a' w') a w
theorem AllReadyL.nil {fuel : Nat} {listed : Array Bool} {a : Act} {w : World} : AllReadyL P md ops Q S ds fuel listed a w [] := fun _ h => by cases h
theorem AllReadyL.cons {fuel : Nat} {listed : Array Bool} {a : Act} {w : World} {i : Nat} {o : Oper} {rs : List Nat} (ho : ops[i]? = some o) (hd : i ∉ ds)
    (h : ∀ K' : Act → World → Prop, Shut (∀ a w, S w → (S w → wpAnyLast P md ops Q S ds fuel (listed.setIfInBounds i true) a w) → K' a w) → if Region.wanted o (yielded ops a.tmps) = true then Oper.wp P o a w K' Q else K' (a.put o.dst undef) w)
    (hs : AllReadyL P md ops Q S ds fuel listed a w rs) : AllReadyL P md ops Q S ds fuel listed a w (i :: rs) := fun j hj => by
  rcases List.mem_cons.1 hj with rfl | hj
  · exact wpOp_step ho (fun K' hK => h K' (fun a w hS hW => hK a w ⟨fun _ _ => hS, hW hS⟩))
  · exact hs j hj
theorem AllReadyL.cons_last {fuel : Nat} {listed : Array Bool} {a : Act} {w : World} {i : Nat} {o : Oper} {rs : List Nat} (ho : ops[i]? = some o) (hd : i ∈ ds)
    (h : ∀ K' : Act → World → Prop, Shut (∀ a w, wpAnyLast P md ops Q S ds fuel (listed.setIfInBounds i true) a w → K' a w) → if Region.wanted o (yielded ops a.tmps) = true then Oper.wp P o a w K' Q else K' (a.put o.dst undef) w)
    (hs : AllReadyL P md ops Q S ds fuel listed a w rs) : AllReadyL P md ops Q S ds fuel listed a w (i :: rs) := fun j hj => by
  rcases List.mem_cons.1 hj with rfl | hj
  · exact wpOp_step ho (fun K' hK => h K' (fun a w hW => hK a w ⟨fun hn => absurd hd hn, hW⟩))
  · exact hs j hj
theorem wpAnyLast_ready {rs : List Nat} {fuel : Nat} {listed : Array Bool} {a : Act} {w : World} (hr : Region.ready md ops listed = rs) (hne : rs ≠ [])
    (h : AllReadyL P md ops Q S ds fuel listed a w rs) : wpAnyLast P md ops Q S ds (fuel + 1) listed a w := wpAnyLast_all hr hne h
theorem start_ {id n : Nat} {a : Act} {w : World} (l : Array Bool) (hm : P.follows .mixedOrders = true) (hn : ops.size = n) (hl : Array.replicate n false = l) (hS : S w.drew)
    (h : S w.drew → wpAnyLast P .any ops Q S ds n l a w.drew) : (Code.region id ops true).wp P Q a w := by
  subst hn
  subst hl
  exact wp_region_last hm (h hS)
def takeB (md : Region.Mode) (ops : Array Oper) (ds : List Nat) (l l' : Array Bool) (i : Nat) : Bool :=
  Region.noSelect ops && Region.free md ops l i && (Region.ready md ops l).contains i && Region.closedB md ops l && Region.lastB md ops l ds i && (l.setIfInBounds i true == l')
theorem take_ {i : Nat} {N : Option Tmp} {oi : Oper} {v : Value} {fuel : Nat} {l : Array Bool} {a : Act} {w : World} (l' : Array Bool) (hi : ops[i]? = some oi) (hN : oi.dst = N) (hc : takeB md ops ds l l' i = true)
    (hQ : ∀ c a w, Q (.panic c) (a.put oi.dst v) w → Q (.panic c) a w) (hy : YieldsIf P ops S oi v a) (hS : S w) {a' : Act} (ha : a.put N v = a')
    (h : wpAnyLast P md ops Q S ds fuel l' a' w) : wpAnyLast P md ops Q S ds (fuel + 1) l a w := by
  subst ha
  subst hN
  simp only [takeB, Bool.and_eq_true, beq_iff_eq] at hc
  obtain ⟨⟨⟨⟨⟨h1, h2⟩, h3⟩, h4⟩, h5⟩, h6⟩ := hc
  subst h6
  exact wpAnyLast_take hi h1 h2 h3 h4 h5 hQ hy hS h
def anyB (md : Region.Mode) (ops : Array Oper) (l l' : Array Bool) (i : Nat) : Bool :=
  Region.noSelect ops && Region.free md ops l i && (Region.ready md ops l).contains i && (l.setIfInBounds i true == l')
theorem pure_ {i : Nat} {N : Option Tmp} {oi : Oper} {v : Value} {fuel : Nat} {l : Array Bool} {a : Act} {w : World} (l' : Array Bool) (hi : ops[i]? = some oi) (hN : oi.dst = N) (hc : anyB md ops l l' i = true)
    (hQ : ∀ c a w, Q (.panic c) (a.put oi.dst v) w → Q (.panic c) a w) (hy : Yields P ops oi v a) {a' : Act} (ha : a.put N v = a')
    (h : wpAnyLast P md ops Q S ds fuel l' a' w) : wpAnyLast P md ops Q S ds (fuel + 1) l a w := by
  subst ha
  subst hN
  simp only [anyB, Bool.and_eq_true, beq_iff_eq] at hc
  obtain ⟨⟨⟨h1, h2⟩, h3⟩, h6⟩ := hc
  subst h6
  exact wpAnyLast_any hi (Region.noSelect_spec h1) hQ fuel l a w (Region.free_spec hi h2) (by simpa using h3) hy h
def readyB (md : Region.Mode) (ops : Array Oper) (l l' : Array Bool) (i : Nat) : Bool := (Region.ready md ops l == [i]) && (l.setIfInBounds i true == l')
theorem one_ {i : Nat} {N : Option Tmp} {oi : Oper} {fuel : Nat} {l : Array Bool} {a : Act} {w : World} (l' : Array Bool) (hi : ops[i]? = some oi) (hN : oi.dst = N) (hc : readyB md ops l l' i = true) (hd : i ∉ ds)
    (h : ∀ K : Act → World → Prop, Shut (∀ a' w', S w' → (S w' → wpAnyLast P md ops Q S ds fuel l' a' w') → K a' w') → if Region.wanted oi (yielded ops a.tmps) = true then Oper.wp P oi a w K Q else K (a.put N undef) w) :
    wpAnyLast P md ops Q S ds (fuel + 1) l a w := by
  subst hN
  simp only [readyB, Bool.and_eq_true, beq_iff_eq] at hc
  obtain ⟨h1, h2⟩ := hc
  subst h2
  exact wpAnyLast_ready h1 (by simp) (AllReadyL.cons hi hd (fun K hK => h K hK) AllReadyL.nil)
theorem last_ {i : Nat} {N : Option Tmp} {oi : Oper} {fuel : Nat} {l : Array Bool} {a : Act} {w : World} (l' : Array Bool) (hi : ops[i]? = some oi) (hN : oi.dst = N) (hc : readyB md ops l l' i = true) (hd : i ∈ ds)
    (h : ∀ K : Act → World → Prop, Shut (∀ a' w', wpAnyLast P md ops Q S ds fuel l' a' w' → K a' w') → if Region.wanted oi (yielded ops a.tmps) = true then Oper.wp P oi a w K Q else K (a.put N undef) w) :
    wpAnyLast P md ops Q S ds (fuel + 1) l a w := by
  subst hN
  simp only [readyB, Bool.and_eq_true, beq_iff_eq] at hc
  obtain ⟨h1, h2⟩ := hc
  subst h2
  exact wpAnyLast_ready h1 (by simp) (AllReadyL.cons_last hi hd (fun K hK => h K hK) AllReadyL.nil)
theorem done_ {l : Array Bool} {a : Act} {w : World} {n : Nat} (hr : (Region.ready md ops l == []) = true) (h : Q .normal a w) : wpAnyLast P md ops Q S ds n l a w := wpAnyLast_done (by simpa using hr) h n
theorem two_ {i j : Nat} {Ni Nj : Option Tmp} {oi oj : Oper} {fuel : Nat} {l : Array Bool} {a : Act} {w : World} (li lj : Array Bool) (hi : ops[i]? = some oi) (hj : ops[j]? = some oj) (hNi : oi.dst = Ni) (hNj : oj.dst = Nj)
    (hc : (Region.ready md ops l == [i, j] && l.setIfInBounds i true == li && l.setIfInBounds j true == lj) = true) (hdi : i ∉ ds) (hdj : j ∉ ds)
    (h1 : ∀ K : Act → World → Prop, Shut (∀ a' w', S w' → (S w' → wpAnyLast P md ops Q S ds fuel li a' w') → K a' w') → if Region.wanted oi (yielded ops a.tmps) = true then Oper.wp P oi a w K Q else K (a.put Ni undef) w)
    (h2 : ∀ K : Act → World → Prop, Shut (∀ a' w', S w' → (S w' → wpAnyLast P md ops Q S ds fuel lj a' w') → K a' w') → if Region.wanted oj (yielded ops a.tmps) = true then Oper.wp P oj a w K Q else K (a.put Nj undef) w) :
    wpAnyLast P md ops Q S ds (fuel + 1) l a w := by
  subst hNi
  subst hNj
  simp only [Bool.and_eq_true, beq_iff_eq] at hc
  obtain ⟨⟨h3, h4⟩, h5⟩ := hc
  subst h4
  subst h5
  exact wpAnyLast_ready h3 (by simp) (AllReadyL.cons hi hdi (fun K hK => h1 K hK) (AllReadyL.cons hj hdj (fun K hK => h2 K hK) AllReadyL.nil))
def putAll : Act → List (Tmp × Value) → Act
  | a, [] => a
  | a, (n, v) :: r => putAll (a.put (some n) v) r
theorem join_ {σ : Type} {fuel : Nat} {l : Array Bool} {a : Act} {w : World} (fuel' : Nat) (l' : Array Bool) (ns : σ → List (Tmp × Value)) (F : σ → World → Prop)
    (hcont : ∀ s w', F s w' → wpAnyLast P md ops Q S ds fuel' l' (putAll a (ns s)) w')
    (h : (∀ s w', F s w' → wpAnyLast P md ops Q S ds fuel' l' (putAll a (ns s)) w') → wpAnyLast P md ops Q S ds fuel l a w) : wpAnyLast P md ops Q S ds fuel l a w := h hcont
theorem norm_ {fuel : Nat} {l : Array Bool} {a a' : Act} {w : World} (ha : a = a') (h : wpAnyLast P md ops Q S ds fuel l a' w) : wpAnyLast P md ops Q S ds fuel l a w := by
  subst ha
  exact h
theorem call_ {oi : Oper} {N : Option Tmp} {a : Act} {w : World} {K : Act → World → Prop} (f : FuncId) (args : Array Value) (hw : Region.wanted oi (yielded ops a.tmps) = true) (hN : oi.dst = N) (hrun : (execOp a.eval oi).run P w = .ok (.enter f args) w)
    (h : Calls P f args w fun e w' => ∃ v, e = .returned v ∧ K (a.put N v) w') : if Region.wanted oi (yielded ops a.tmps) = true then Oper.wp P oi a w K Q else K (a.put N undef) w := by
  rw [if_pos hw]
  subst hN
  unfold Oper.wp
  rw [hrun, Oper.upon_enter]
  refine h.mono fun e w'' hh => ?_
  obtain ⟨v, rfl, hk⟩ := hh
  exact hk
theorem enters_ {f : FuncId} {fn : Func} (hf : P.funcs[f]? = some fn) (hname : (fn.name == "runtime.NumGoroutine") = false) (hb : fn.body.isSome = true) (args : Array Value) (w : World) : (callFunc f args).run P w = .ok (.enter f args) w := by
  have h1 : fn.name ≠ "runtime.NumGoroutine" := by simpa using hname
  obtain ⟨c, hc⟩ := Option.isSome_iff_exists.1 hb
  simp [callFunc, hf, h1, hc]
theorem goes_ {oi : Oper} {N : Option Tmp} {a : Act} {w : World} {K : Act → World → Prop} {f : FuncId} {fn : Func} {as_ : Array Operand} {ts : Array TypeId} (hf : P.funcs[f]? = some fn) (hname : (fn.name == "runtime.NumGoroutine") = false) (hb : fn.body.isSome = true) (args : Array Value)
    (hw : Region.wanted oi (yielded ops a.tmps) = true) (hN : oi.dst = N) (hop : oi.op = .call { callee := .value (.func f), args := as_, argTypes := ts }) (hargs : as_.map a.eval = args)
    (h : Calls P f args w fun e w' => ∃ v, e = .returned v ∧ K (a.put N v) w') : if Region.wanted oi (yielded ops a.tmps) = true then Oper.wp P oi a w K Q else K (a.put N undef) w := by
  refine call_ f args hw hN ?_ h
  have he := enters_ hf hname hb args w
  unfold execOp
  simp [hop, resolve, Deferred.ofValue, invoke, Act.eval, hargs, he]
theorem goesL_ {rest : List Oper} {oi : Oper} {a : Act} {w : World} (N : Option Tmp) (hd : oi.dst = N) (hg : oi.guard = none) {f : FuncId} {fn : Func} {as_ : Array Operand} {ts : Array TypeId} (hf : P.funcs[f]? = some fn) (hname : (fn.name == "runtime.NumGoroutine") = false) (hb : fn.body.isSome = true) (args : Array Value)
    (hop : oi.op = .call { callee := .value (.func f), args := as_, argTypes := ts }) (hargs : as_.map a.eval = args)
    (h : Calls P f args w fun e w' => ∃ v, e = .returned v ∧ wpList P ops Q rest (a.put N v) w') : wpList P ops Q (oi :: rest) a w := by
  refine wpList_plain hg fun K hK => ?_
  have he := enters_ hf hname hb args w
  have hrun : (execOp a.eval oi).run P w = .ok (.enter f args) w := by
    unfold execOp
    simp [hop, resolve, Deferred.ofValue, invoke, Act.eval, hargs, he]
  unfold Oper.wp
  rw [hrun, Oper.upon_enter]
  refine h.mono fun e w'' hh => ?_
  obtain ⟨v, rfl, hk⟩ := hh
  subst hd
  exact hK _ _ hk
theorem value_ {oi : Oper} {N : Option Tmp} {a : Act} {w w1 : World} {v : Value} {K : Act → World → Prop} (hw : Region.wanted oi (yielded ops a.tmps) = true) (hN : oi.dst = N) (hrun : (execOp a.eval oi).run P w = .ok (.value v) w1)
    (h : K (a.put N v) w1) : if Region.wanted oi (yielded ops a.tmps) = true then Oper.wp P oi a w K Q else K (a.put N undef) w := by
  rw [if_pos hw]
  subst hN
  unfold Oper.wp
  rw [hrun]
  exact h
theorem skip_ {oi : Oper} {a : Act} {w w1 : World} {K : Act → World → Prop} (hw : Region.wanted oi (yielded ops a.tmps) = true) (hN : oi.dst = none) (hrun : (execOp a.eval oi).run P w = .ok .skip w1)
    (h : K a w1) : if Region.wanted oi (yielded ops a.tmps) = true then Oper.wp P oi a w K Q else K (a.put none undef) w := by
  rw [if_pos hw]
  unfold Oper.wp
  rw [hrun]
  show K (a.put oi.dst undef) w1
  rw [hN]
  exact h
theorem i64_w (n : Int) : IntKind.i64.wrap n = Go.RowKit.wrap64 n := by unfold Go.RowKit.wrap64; exact IntKind.wrap_i64 n
theorem i32_w (n : Int) : IntKind.i32.wrap n = Go.RowKit.wrap32 n := by unfold Go.RowKit.wrap32; exact IntKind.wrap_i32 n
end
end Go.Proofs.YtbnonnogkgbpiaaDoorW.PrintLast
end
section
namespace Go.Proofs.YtbnonnogkgbpiaaDoorW.PrintWords
open Go.RowKit
namespace Kd
section
variable {α : Type} {d : Kd α} {e base g o n cap : Nat} {ok okp : Nat → Prop} {w W : World} {v : Value} {xs : List α}
end
section
variable {α : Type} {enc : α → Value} {h1 : ∀ x, (enc x).oneCell' = true} {e base g o n cap : Nat} {ok : Nat → Prop} {W : World} {xs : List α}
end
end Kd
end Go.Proofs.YtbnonnogkgbpiaaDoorW.PrintWords
end
section
namespace Go.Proofs.YtbnonnogkgbpiaaDoorW.PrintWords
open Go.RowKit
namespace Kd
def tag {α : Type} (f : Nat → Nat) (d : Kd α) : Kd (α × Nat) where
  sz := d.sz
  E := d.E
  K := fun w x cs => d.K w x.1 cs
  M := fun w base ok x cs => d.M w base (fun k => ok k ∧ f k = x.2) x.1 cs
  K_len := fun h => d.K_len h
  K_one := fun h => d.K_one h
  K_below := fun hb h => d.K_below hb h
  K_of_M := fun h => d.K_of_M h
  M_mono := fun hok h => d.M_mono (fun k hk => ⟨hok k hk.1, hk.2⟩) h
  M_bound := fun h => d.M_mono (fun _ hk => ⟨⟨hk.1.1, hk.2⟩, hk.1.2⟩) (d.M_bound h)
  M_move := fun hm h => d.M_move (fun k hk => hm k hk.1) h
  M_lower := fun hb h => d.M_lower hb h
def raw (sz : Nat) : Kd (List Value) where
  sz := sz
  E := []
  K := fun _ x cs => cs = x ∧ cs.length = sz ∧ ∀ u ∈ cs, u.oneCell' = true
  M := fun _ _ _ x cs => cs = x ∧ cs.length = sz ∧ ∀ u ∈ cs, u.oneCell' = true
  K_len := fun h => h.2.1
  K_one := fun h => h.2.2
  K_below := fun _ h => h
  K_of_M := fun h => h
  M_mono := fun _ h => h
  M_bound := fun h => h
  M_move := fun _ h => h
  M_lower := fun _ h => h
def S {α : Type} (d : Kd α) (e : Nat) (w : World) (base : Nat) (ok : Nat → Prop) (v : Value) (xs : List α) : Prop := ∃ f, (tag f d).R e w base ok v xs.zipIdx
section
variable {α β : Type} {d : Kd α} {d' : Kd β} {e e' : Nat} {w w1 W : World} {base b : Nat} {ok ok' okv oku : Nat → Prop} {u v : Value} {xs : List α} {ys : List β}
end
section
variable {α β : Type} {d : Kd α} {d' : Kd β} {e e' g : Nat} {w w1 W : World} {base b : Nat} {ok ok' okv oku : Nat → Prop} {u v : Value} {xs : List α} {ys : List β}
end
section
variable {P : Program} {ops : Array Oper} {rest : List Oper} {o : Oper} {a : Act} {Q : Exit → Act → World → Prop} {Kc : Act → World → Prop} {α : Type}
end
def gap {α : Type} (f : Nat → Nat) (d : Kd α) (i : Nat) (c : List Value) : Kd (α × Nat) where
  sz := d.sz
  E := d.E
  K := fun w x cs => (x.2 = i → cs = c ∧ cs.length = d.sz ∧ ∀ u ∈ cs, u.oneCell' = true) ∧ (x.2 ≠ i → d.K w x.1 cs)
  M := fun w base ok x cs => (x.2 = i → cs = c ∧ cs.length = d.sz ∧ ∀ u ∈ cs, u.oneCell' = true) ∧ (x.2 ≠ i → d.M w base (fun k => ok k ∧ f k = x.2) x.1 cs)
  K_len := fun {w x cs} h => by
    by_cases hx : x.2 = i
    · exact (h.1 hx).2.1
    · exact d.K_len (h.2 hx)
  K_one := fun {w x cs} h => by
    by_cases hx : x.2 = i
    · exact (h.1 hx).2.2
    · exact d.K_one (h.2 hx)
  K_below := fun hb h => ⟨h.1, fun hx => d.K_below hb (h.2 hx)⟩
  K_of_M := fun h => ⟨h.1, fun hx => d.K_of_M (h.2 hx)⟩
  M_mono := fun hok h => ⟨h.1, fun hx => d.M_mono (fun k hk => ⟨hok k hk.1, hk.2⟩) (h.2 hx)⟩
  M_bound := fun h => ⟨h.1, fun hx => d.M_mono (fun _ hk => ⟨⟨hk.1.1, hk.2⟩, hk.1.2⟩) (d.M_bound (h.2 hx))⟩
  M_move := fun hm h => ⟨h.1, fun hx => d.M_move (fun k hk => hm k hk.1) (h.2 hx)⟩
  M_lower := fun hb h => ⟨h.1, fun hx => d.M_lower hb (h.2 hx)⟩
def H {α : Type} (d : Kd α) (e : Nat) (w : World) (base : Nat) (ok : Nat → Prop) (v : Value) (xs : List α) (i : Int) (oki : Nat → Prop) (c : List Value) : Prop :=
  (∀ k, oki k → ok k) ∧ ∃ f, (gap f d i.toNat c).R e w base (fun k => ok k ∧ ¬ oki k) v xs.zipIdx
section
variable {α β : Type} {d : Kd α} {e e' g n cap : Nat} {w w1 W : World} {base : Nat} {ok ok' oki okp : Nat → Prop} {u v : Value} {xs : List α} {i : Int} {c : List Value}
end
section
variable {P : Program} {ops : Array Oper} {rest : List Oper} {o : Oper} {a : Act} {Q : Exit → Act → World → Prop} {α : Type}
end
end Kd
end Go.Proofs.YtbnonnogkgbpiaaDoorW.PrintWords
end
section
namespace Go.Proofs.YtbnonnogkgbpiaaDoorW.PrintWords
open Go.RowKit
namespace Kd
section
variable {α : Type} {n : Nat} {d : Kd α} {hs : 0 < d.sz} {w : World} {base : Nat} {ok : Nat → Prop} {xs : List α} {cs : List Value}
end
section
variable {α : Type} {n : Nat} {enc : α → Value} {h1 : ∀ x, (enc x).oneCell' = true} {hs : 0 < (scalar enc h1).sz} {w : World} {base : Nat} {ok : Nat → Prop} {xs : List α} {cs : List Value}
end
end Kd
end Go.Proofs.YtbnonnogkgbpiaaDoorW.PrintWords
end
section
namespace Go.Proofs.YtbnonnogkgbpiaaDoorW.PrintWords
open Go.RowKit
section
variable {P : Program}
end
namespace Kd
section
variable {P : Program} {ops : Array Oper} {rest : List Oper} {o : Oper} {a : Act} {Q : Exit → Act → World → Prop} {Kc : Act → World → Prop} {α : Type}
end
section
variable {α : Type} {d : Kd α} {e : Nat} {w : World} {base : Nat} {ok : Nat → Prop} {v : Value} {xs : List α}
end
section
variable {P : Program} {ops : Array Oper} {rest : List Oper} {o : Oper} {a : Act} {Q : Exit → Act → World → Prop} {Kc : Act → World → Prop} {α : Type}
end
end Kd
end Go.Proofs.YtbnonnogkgbpiaaDoorW.PrintWords
end
section
namespace Go.Proofs.YtbnonnogkgbpiaaDoorW.PrintWords
open Go.RowKit
namespace Kd
structure Heap {α : Type} (d : Kd α) : Prop where
  K : ∀ {w w1 : World} {x : α} {cs : List Value}, (∀ k, k < w.heap.size → w1.heap[k]? = w.heap[k]?) → d.K w x cs → d.K w1 x cs
theorem cell_heap {w w1 : World} (hb : ∀ k, k < w.heap.size → w1.heap[k]? = w.heap[k]?) {a : Addr} {v : Value} (h : w.cell? a = some v) : w1.cell? a = some v := by
  have := hb a.block (World.block_lt_of_cell? w a h)
  simpa [World.cell?, this] using h
theorem Heap.C {α : Type} {d : Kd α} (hd : Heap d) {w w1 : World} {A : Option Addr} {n : Nat} {xs : List α} (hb : ∀ k, k < w.heap.size → w1.heap[k]? = w.heap[k]?) (h : d.C w A n xs) : d.C w1 A n xs :=
  ⟨h.1, h.2.1, fun hn => by
    obtain ⟨ad, e, hc⟩ := h.2.2 hn
    refine ⟨ad, e, fun j p hj => ?_⟩
    obtain ⟨c, hs, hr, hcell⟩ := hc j p hj
    exact ⟨c, hs, hd.K hb hr, fun i u hu => cell_heap hb (hcell i u hu)⟩⟩
section
variable {α : Type} {d : Kd α} {e base g n c : Nat} {ok : Nat → Prop} {w w0 W : World} {A : Option Addr} {xs : List α}
end
end Kd
end Go.Proofs.YtbnonnogkgbpiaaDoorW.PrintWords
end
section
namespace Go.Proofs.YtbnonnogkgbpiaaDoorW.PrintWords
open Go.RowKit
def Kept (w W : World) (S : Nat → Prop) : Prop := w.heap.size ≤ W.heap.size ∧ ∀ i, i < w.heap.size → ¬ S i → W.heap[i]? = w.heap[i]?
section
variable {w W W2 : World} {S S2 S' : Nat → Prop}
theorem Kept.refl (w : World) (S : Nat → Prop) : Kept w w S := ⟨Nat.le_refl _, fun _ _ _ => rfl⟩
theorem Kept.of_below (h : Below w.heap.size w W) (S : Nat → Prop) : Kept w W S := ⟨h.size, fun i hi _ => h.block i hi⟩
theorem Kept.mono (h : Kept w W S) (hs : ∀ k, S k → S' k) : Kept w W S' := ⟨h.1, fun i hi hn => h.2 i hi (fun hk => hn (hs i hk))⟩
theorem Kept.then_ (h : Kept w W S) (k : Kept W W2 S2) (hs : ∀ k, S2 k → S k ∨ w.heap.size ≤ k) : Kept w W2 S :=
  ⟨Nat.le_trans h.1 k.1, fun i hi hn => (k.2 i (Nat.lt_of_lt_of_le hi h.1) (fun h2 => (hs i h2).elim hn (fun h3 => by omega))).trans (h.2 i hi hn)⟩
theorem Kept.below (h : Kept w W S) (hb : Below W.heap.size W W2) : Kept w W2 S := h.then_ (Kept.of_below hb (fun _ => False)) (fun _ hk => hk.elim)
theorem Kept.alloc (h : Kept w W S) (o : Obj) : Kept w (W.alloc o) S := h.below (below_alloc (Below.refl _ _) o)
theorem Kept.drew (h : Kept w W S) : Kept w W.drew S := h
theorem Kept.drewN (h : Kept w W S) (m : Nat) : Kept w (W.drewN m) S := h
theorem Kept.setCell (h : Kept w W S) {p : Addr} (hp : S p.block ∨ w.heap.size ≤ p.block) (u : Value) : Kept w (W.setCell p u) S :=
  h.then_ (S2 := fun k => k = p.block) ⟨by simp [World.setCell], fun i _ hn => Below.heap_setCell W p u i hn⟩ (fun k hk => by rw [hk]; exact hp)
end
namespace Kd
section
variable {α : Type} {d : Kd α} {e base n c : Nat} {ok oki S S2 : Nat → Prop} {w w0 W W1 W2 : World} {v : Value} {A : Option Addr} {xs : List α} {i : Int} {cs : List Value}
end
end Kd
end Go.Proofs.YtbnonnogkgbpiaaDoorW.PrintWords
end
section
namespace Go.Proofs.YtbnonnogkgbpiaaDoorW.PrintWords
open Go.RowKit
def Foot (P : World → Prop) (W : World) (ok : Nat → Prop) : Prop := ∀ W' : World, (∀ k, ok k → k < W.heap.size → W'.heap[k]? = W.heap[k]?) → P W'
theorem heap_lt {W W1 : World} {k : Nat} (h : W1.heap[k]? = W.heap[k]?) (hlt : k < W.heap.size) : k < W1.heap.size := by
  rw [Array.getElem?_eq_getElem hlt] at h
  exact (Array.getElem?_eq_some_iff.1 h).1
namespace Foot
variable {P Q : World → Prop} {W W1 : World} {ok ok' : Nat → Prop}
theorem mono (h : Foot P W ok) (hok : ∀ k, ok k → ok' k) : Foot P W ok' := fun W' hW => h W' (fun k hk hlt => hW k (hok k hk) hlt)
theorem step (h : Foot P W ok) (hm : ∀ k, ok k → k < W.heap.size → W1.heap[k]? = W.heap[k]?) : Foot P W1 ok := fun W' hW => h W' (fun k hk hlt => (hW k hk (heap_lt (hm k hk hlt) hlt)).trans (hm k hk hlt))
theorem imp (h : Foot P W ok) (hi : ∀ W', P W' → Q W') : Foot Q W ok := fun W' hW => hi W' (h W' hW)
end Foot
namespace Kd
def F {α : Type} (d : Kd α) (W : World) (ok : Nat → Prop) (A : Option Addr) (n : Nat) (xs : List α) : Prop := Foot (fun W => d.C W A n xs) W ok
def FK {α : Type} (d : Kd α) (W : World) (ok : Nat → Prop) (x : α) (c : List Value) : Prop := Foot (fun W => d.K W x c) W ok
section
variable {α β : Type} {d : Kd α} {e base n n' cc g N : Nat} {ok ok' okp S : Nat → Prop} {w w0 w1 W W1 : World} {A A' : Option Addr} {u v v1 : Value} {xs : List α} {xs' : List β} {d' : Kd β} {x : α} {c : List Value}
end
end Kd
end Go.Proofs.YtbnonnogkgbpiaaDoorW.PrintWords
end
section
namespace Go.Proofs.YtbnonnogkgbpiaaDoorW.PrintWords
open Go.RowKit
namespace Kd
section
variable {α : Type} {d : Kd α} {e base n cc g : Nat} {ok ok' okp S : Nat → Prop} {w w1 W W1 : World} {A : Option Addr} {u v v1 : Value} {xs : List α} {x : α} {c : List Value}
def N {α : Type} (d : Kd α) (e : Nat) (w : World) (base : Nat) (ok : Nat → Prop) (v : Value) (xs : List α) : Prop :=
  (∀ k, v.ownBlock = some k → ok k) ∧ ∃ rows : List (List Value), rows.length = xs.length ∧ (raw d.sz).R e w base (fun k => some k = v.ownBlock) v rows ∧ ∀ (j : Nat) (x : α) (c : List Value), xs[j]? = some x → rows[j]? = some c → FK d w (fun k => ok k ∧ some k ≠ v.ownBlock) x c
end
end Kd
end Go.Proofs.YtbnonnogkgbpiaaDoorW.PrintWords
end
section
namespace Go.Proofs.YtbnonnogkgbpiaaDoorW.PrintWords
open Go.RowKit
namespace Kd
section
variable {α : Type} {d : Kd α} {e base n cap g : Nat} {ok ok' okp : Nat → Prop} {w w1 W : World} {v v1 : Value} {xs ys : List α}
end
section
variable {P : Program} {ops : Array Oper} {rest : List Oper} {o : Oper} {a : Act} {Q : Exit → Act → World → Prop} {Kc : Act → World → Prop} {α : Type}
end
end Kd
end Go.Proofs.YtbnonnogkgbpiaaDoorW.PrintWords
end
section
namespace Go.Proofs.YtbnonnogkgbpiaaDoorW.PrintMore
open Go.RowKit Go.Proofs.YtbnonnogkgbpiaaDoorW.PrintWords
namespace Kd
open Go.Proofs.YtbnonnogkgbpiaaDoorW.PrintWords.Kd
end Kd
namespace Kd
open Go.Proofs.YtbnonnogkgbpiaaDoorW.PrintWords.Kd
section
variable {α : Type} {d : Kd α} {e base g N : Nat} {ok : Nat → Prop} {W w1 : World} {u v : Value} {xs : List α}
end
end Kd
theorem max2_int (k k' : IntKind) (x y : Int) : Builtin.max2 (.int k x) (.int k' y) = pure (.int k (if x < y then y else x)) := by simp only [Builtin.max2, gt_iff_lt]
theorem min2_int (k k' : IntKind) (x y : Int) : Builtin.min2 (.int k x) (.int k' y) = pure (.int k (if y < x then y else x)) := by simp only [Builtin.min2]
theorem max_two (ats : Array TypeId) (ty : TypeId) (a b : Value) : Builtin.max_ ats ty #[a, b] = (Builtin.max2 a b >>= fun s => pure s) := by simp only [Builtin.max_, List.foldlM_cons, List.foldlM_nil]
theorem min_two (ats : Array TypeId) (ty : TypeId) (a b : Value) : Builtin.min_ ats ty #[a, b] = (Builtin.min2 a b >>= fun s => pure s) := by simp only [Builtin.min_, List.foldlM_cons, List.foldlM_nil]
theorem max_three (ats : Array TypeId) (ty : TypeId) (a b c : Value) : Builtin.max_ ats ty #[a, b, c] = (Builtin.max2 a b >>= fun s => Builtin.max2 s c >>= fun s => pure s) := by simp only [Builtin.max_, List.foldlM_cons, List.foldlM_nil]
theorem min_three (ats : Array TypeId) (ty : TypeId) (a b c : Value) : Builtin.min_ ats ty #[a, b, c] = (Builtin.min2 a b >>= fun s => Builtin.min2 s c >>= fun s => pure s) := by simp only [Builtin.min_, List.foldlM_cons, List.foldlM_nil]
theorem max_four (ats : Array TypeId) (ty : TypeId) (a b c d : Value) : Builtin.max_ ats ty #[a, b, c, d] = (Builtin.max2 a b >>= fun s => Builtin.max2 s c >>= fun s => Builtin.max2 s d >>= fun s => pure s) := by simp only [Builtin.max_, List.foldlM_cons, List.foldlM_nil]
theorem min_four (ats : Array TypeId) (ty : TypeId) (a b c d : Value) : Builtin.min_ ats ty #[a, b, c, d] = (Builtin.min2 a b >>= fun s => Builtin.min2 s c >>= fun s => Builtin.min2 s d >>= fun s => pure s) := by simp only [Builtin.min_, List.foldlM_cons, List.foldlM_nil]
end Go.Proofs.YtbnonnogkgbpiaaDoorW.PrintMore
namespace Go.Proofs.YtbnonnogkgbpiaaDoorW.PrintWords
open Go.RowKit
section
variable {P : Program} {ops : Array Oper} {rest : List Oper} {o : Oper} {a : Act} {Q : Exit → Act → World → Prop} {W : World}
theorem gate_callee {f : FuncId} {as_ : Array Operand} {ts : Array TypeId} (_ho : o.op = .call { callee := .value (.func f), args := as_, argTypes := ts }) (h : wpList P ops Q (o :: rest) a W) : wpList P ops Q (o :: rest) a W := h
theorem gate_builtin {b : Builtin} {xs : Array Operand} {ts : Array TypeId} (_ho : o.op = .call { callee := .builtin b, args := xs, argTypes := ts }) (h : wpList P ops Q (o :: rest) a W) : wpList P ops Q (o :: rest) a W := h
end
def mx (a b : Int) : Int := if a < b then b else a
theorem drewN_self (w : World) (n : Nat) : w.drewN n = w.drewN n := rfl
namespace Kd
section
variable {α : Type} {d : Kd α} {e base : Nat} {ok : Nat → Prop} {W w1 : World} {v : Value} {xs : List α}
end
section
variable {α : Type} {d : Kd α} {e base g n cap : Nat} {ok oki okp : Nat → Prop} {W : World} {xs : List α} {i : Int} {c : List Value}
end
section
variable {α : Type} {d : Kd α} {e base b b' g N : Nat} {ok ok1 : Nat → Prop} {W W2 w1 : World} {u v : Value} {xs ys : List α} {S : Nat → Prop}
end
end Kd
end Go.Proofs.YtbnonnogkgbpiaaDoorW.PrintWords
namespace Go.Proofs.YtbnonnogkgbpiaaDoorW.PrintWords
open Go.RowKit
namespace Kd
section
variable {α β : Type} {d : Kd α} {e base base' n m c g N' lo hi : Nat} {ok ok' S : Nat → Prop} {w W w1 : World} {A : Option Addr} {ad : Addr} {u v v1 : Value} {xs : List α}
end
end Kd
end Go.Proofs.YtbnonnogkgbpiaaDoorW.PrintWords
end
section
namespace Go.Proofs.YtbnonnogkgbpiaaDoorW.PrintLast
open Go.Proofs.YtbnonnogkgbpiaaDoorW.PrintWords (Aside0)
def needsOf (md : Region.Mode) (o : Oper) : List Nat := (o.after.toList.filter (fun e => Region.binds md e)).map (fun e => e.on)
def clashOf (md : Region.Mode) (ops : Array Oper) (i : Nat) (oi : Oper) : List Nat := (List.range ops.size).filter fun j => !(j == i) && match ops[j]? with
  | some oj => !(oj.after.any (fun e => Region.binds md e && e.on == i) || oi.apart ops oj)
  | none => false
def rtab (md : Region.Mode) (ops : Array Oper) : Bool × List (List Nat × List Nat) := (Region.noSelect ops, (List.range ops.size).map fun i => match ops[i]? with
  | some o => (needsOf md o, clashOf md ops i o)
  | none => ([], []))
def readyAt (T : List (List Nat × List Nat)) (l : List Bool) (i : Nat) : Bool := !l.getD i true && match T[i]? with
  | some r => r.1.all (fun j => l.getD j false)
  | none => false
def readyT (T : List (List Nat × List Nat)) (l : List Bool) : List Nat := (List.range T.length).filter (readyAt T l)
def freeT (T : List (List Nat × List Nat)) (l : List Bool) (i : Nat) : Bool := match T[i]? with
  | some r => r.2.all (fun j => l.getD j true)
  | none => false
def closedT (T : List (List Nat × List Nat)) (l : List Bool) : Bool := (List.range T.length).all fun j => !l.getD j false || match T[j]? with
  | some r => r.1.all (fun k => l.getD k false)
  | none => true
def reachT (T : List (List Nat × List Nat)) (i : Nat) : Nat → Nat → Bool
  | 0, _ => false
  | fuel + 1, d => match T[d]? with
    | some r => r.1.any fun j => j == i || reachT T i fuel j
    | none => false
def lastT (T : List (List Nat × List Nat)) (l : List Bool) (ds : List Nat) (i : Nat) : Bool := ds.all fun d => l.getD d true || reachT T i T.length d
section
variable {md : Region.Mode} {ops : Array Oper} {T : Bool × List (List Nat × List Nat)} {l l' li lj lk : Array Bool} {ds : List Nat} {i j k : Nat}
theorem gd (l : Array Bool) (j : Nat) (b : Bool) : l.getD j b = l.toList.getD j b := by simp [Array.getD_eq_getD_getElem?, List.getD_eq_getElem?_getD]
theorem needs_all (o : Oper) (p : Nat → Bool) : o.after.all (fun e => !Region.binds md e || p e.on) = (needsOf md o).all p := by
  unfold needsOf
  rw [← Array.all_toList]
  induction o.after.toList with
  | nil => rfl
  | cons e r ih =>
    rw [List.all_cons, ih, List.filter_cons]
    cases h : Region.binds md e <;> simp
theorem needs_any (o : Oper) (p : Nat → Bool) : o.after.any (fun e => Region.binds md e && p e.on) = (needsOf md o).any p := by
  unfold needsOf
  rw [← Array.any_toList]
  induction o.after.toList with
  | nil => rfl
  | cons e r ih =>
    rw [List.any_cons, ih, List.filter_cons]
    cases h : Region.binds md e <;> simp
theorem rtab_length : (rtab md ops).2.length = ops.size := by simp [rtab]
theorem rtab_some {o : Oper} (h : ops[i]? = some o) : (rtab md ops).2[i]? = some (needsOf md o, clashOf md ops i o) := by
  have hi := (Array.getElem?_eq_some_iff.1 h).1
  unfold rtab
  rw [List.getElem?_map, List.getElem?_range hi, Option.map_some, h]
theorem rtab_none (h : ops[i]? = none) : (rtab md ops).2[i]? = none := by
  have hi : ops.size ≤ i := Array.getElem?_eq_none_iff.1 h
  exact List.getElem?_eq_none (by rw [rtab_length]; exact hi)
theorem readyAt_eq : readyAt (rtab md ops).2 l.toList i = (!l.getD i true && ((ops[i]?).map (·.after.all fun e => !Region.binds md e || l.getD e.on false)).getD false) := by
  unfold readyAt
  rw [gd]
  cases h : ops[i]? with
  | none => rw [rtab_none h]; rfl
  | some o =>
    rw [rtab_some h]
    simp only [Option.map_some, Option.getD_some]
    rw [← needs_all]
    simp only [gd]
theorem ready_eq : Region.ready md ops l = readyT (rtab md ops).2 l.toList := by
  unfold Region.ready readyT
  rw [rtab_length]
  refine List.filter_congr (fun i _ => ?_)
  rw [readyAt_eq]
theorem free_eq : Region.free md ops l i = freeT (rtab md ops).2 l.toList i := by
  unfold Region.free freeT
  cases h : ops[i]? with
  | none => rw [rtab_none h]
  | some oi =>
    rw [rtab_some h]
    simp only [clashOf]
    rw [List.all_filter]
    congr 1
    funext j
    rw [gd]
    cases hj : ops[j]? with
    | none => cases (j == i) <;> cases (l.toList.getD j true) <;> simp
    | some oj =>
      cases (j == i) <;> cases (l.toList.getD j true) <;> cases (oj.after.any (fun e => Region.binds md e && e.on == i) || oi.apart ops oj) <;> simp_all
theorem closed_eq : Region.closedB md ops l = closedT (rtab md ops).2 l.toList := by
  unfold Region.closedB closedT
  rw [rtab_length]
  congr 1
  funext j
  rw [gd]
  cases h : ops[j]? with
  | none => rw [rtab_none h]
  | some o =>
    rw [rtab_some h]
    simp only
    rw [← needs_all]
    simp only [gd]
theorem reach_eq : ∀ (fuel d : Nat), Region.reachB md ops i fuel d = reachT (rtab md ops).2 i fuel d
  | 0, _ => rfl
  | fuel + 1, d => by
    unfold Region.reachB reachT
    cases h : ops[d]? with
    | none => rw [rtab_none h]
    | some o =>
      rw [rtab_some h]
      simp only
      rw [← needs_any]
      congr 1
      funext e
      rw [reach_eq fuel]
theorem last_eq : Region.lastB md ops l ds i = lastT (rtab md ops).2 l.toList ds i := by
  unfold Region.lastB lastT
  rw [rtab_length]
  congr 1
  funext d
  rw [gd, reach_eq]
theorem readyAt_mem (h : readyAt T.2 l.toList i = true) (hT : rtab md ops = T) : (Region.ready md ops l).contains i = true := by
  subst hT
  rw [ready_eq]
  unfold readyT
  rw [List.contains_iff_mem, List.mem_filter, List.mem_range]
  refine ⟨?_, h⟩
  unfold readyAt at h
  rw [Bool.and_eq_true] at h
  cases hq : (rtab md ops).2[i]? with
  | none => rw [hq] at h; simp at h
  | some r => exact (List.getElem?_eq_some_iff.1 hq).1
theorem set_of (h : (l.toList.set i true == l'.toList) = true) : (l.setIfInBounds i true == l') = true := by
  rw [beq_iff_eq] at h ⊢
  apply Array.ext'
  rw [Array.toList_setIfInBounds]
  exact h
def anyT (T : Bool × List (List Nat × List Nat)) (l l' : List Bool) (i : Nat) : Bool := T.1 && freeT T.2 l i && readyAt T.2 l i && (l.set i true == l')
theorem any_of (hT : rtab md ops = T) (h : anyT T l.toList l'.toList i = true) : anyB md ops l l' i = true := by
  simp only [anyT, Bool.and_eq_true] at h
  obtain ⟨⟨⟨h1, h2⟩, h3⟩, h4⟩ := h
  have h5 := readyAt_mem h3 hT
  have h6 := set_of h4
  subst hT
  simp only [anyB, Bool.and_eq_true]
  exact ⟨⟨⟨h1, by rw [free_eq]; exact h2⟩, h5⟩, h6⟩
def takeT (T : Bool × List (List Nat × List Nat)) (ds : List Nat) (l l' : List Bool) (i : Nat) : Bool := T.1 && freeT T.2 l i && readyAt T.2 l i && closedT T.2 l && lastT T.2 l ds i && (l.set i true == l')
theorem take_of (hT : rtab md ops = T) (h : takeT T ds l.toList l'.toList i = true) : takeB md ops ds l l' i = true := by
  simp only [takeT, Bool.and_eq_true] at h
  obtain ⟨⟨⟨⟨⟨h1, h2⟩, h3⟩, h4⟩, h5⟩, h6⟩ := h
  have h7 := readyAt_mem h3 hT
  have h8 := set_of h6
  subst hT
  simp only [takeB, Bool.and_eq_true]
  exact ⟨⟨⟨⟨⟨h1, by rw [free_eq]; exact h2⟩, h7⟩, by rw [closed_eq]; exact h4⟩, by rw [last_eq]; exact h5⟩, h8⟩
theorem one_of (hT : rtab md ops = T) (h : (readyT T.2 l.toList == [i] && l.toList.set i true == l'.toList) = true) : readyB md ops l l' i = true := by
  simp only [Bool.and_eq_true] at h
  obtain ⟨h1, h2⟩ := h
  subst hT
  simp only [readyB, Bool.and_eq_true]
  exact ⟨by rw [ready_eq]; exact h1, set_of h2⟩
theorem two_of (hT : rtab md ops = T) (h : (readyT T.2 l.toList == [i, j] && l.toList.set i true == li.toList && l.toList.set j true == lj.toList) = true) : (Region.ready md ops l == [i, j] && l.setIfInBounds i true == li && l.setIfInBounds j true == lj) = true := by
  simp only [Bool.and_eq_true] at h ⊢
  obtain ⟨⟨h1, h2⟩, h3⟩ := h
  subst hT
  exact ⟨⟨by rw [ready_eq]; exact h1, set_of h2⟩, set_of h3⟩
theorem done_of (hT : rtab md ops = T) (h : (readyT T.2 l.toList == []) = true) : (Region.ready md ops l == []) = true := by
  subst hT
  rw [ready_eq]
  exact h
def upM (B : List Nat) (d : Nat) : List Nat → Nat
  | [] => 0
  | n :: r => (2 ^ n ||| (if n < d then B.getD n 0 else 0)) ||| upM B d r
def waitsOk (T : List (List Nat × List Nat)) (B : List Nat) : Bool := (List.range T.length).all fun d => match T[d]? with
  | some r => (B.getD d 0 ||| upM B d r.1) == upM B d r.1
  | none => false
theorem upM_bit {B : List Nat} {d i : Nat} : ∀ {ns : List Nat}, (upM B d ns).testBit i = true → ∃ n ∈ ns, n = i ∨ (n < d ∧ (B.getD n 0).testBit i = true)
  | [], h => by simp [upM] at h
  | n :: r, h => by
    unfold upM at h
    rw [Nat.testBit_or, Nat.testBit_or, Bool.or_eq_true, Bool.or_eq_true] at h
    rcases h with (h | h) | h
    · rw [Nat.testBit_two_pow] at h
      exact ⟨n, List.mem_cons_self, .inl (by simpa using h)⟩
    · by_cases hn : n < d
      · rw [if_pos hn] at h
        exact ⟨n, List.mem_cons_self, .inr ⟨hn, h⟩⟩
      · rw [if_neg hn] at h
        simp at h
    · obtain ⟨m, hm, h2⟩ := upM_bit h
      exact ⟨m, List.mem_cons_of_mem _ hm, h2⟩
theorem reach_bit {T : List (List Nat × List Nat)} {B : List Nat} (hB : waitsOk T B = true) : ∀ (fuel d : Nat), d < fuel → d < T.length → (B.getD d 0).testBit i = true → reachT T i fuel d = true
  | 0, d, h, _, _ => by omega
  | fuel + 1, d, h, hd, hb => by
    have h1 := List.all_eq_true.1 hB d (List.mem_range.2 hd)
    cases hr : T[d]? with
    | none => rw [hr] at h1; simp at h1
    | some r =>
      rw [hr] at h1
      simp only [beq_iff_eq] at h1
      have h2 : (upM B d r.1).testBit i = true := by rw [← h1, Nat.testBit_or, hb, Bool.true_or]
      obtain ⟨n, hn, h3⟩ := upM_bit h2
      unfold reachT
      rw [hr]
      simp only
      rw [List.any_eq_true]
      refine ⟨n, hn, ?_⟩
      rcases h3 with rfl | ⟨h4, h5⟩
      · simp
      · rw [reach_bit hB fuel n (by omega) (by omega) h5, Bool.or_true]
def lastW (T : List (List Nat × List Nat)) (B : List Nat) (l : List Bool) (ds : List Nat) (i : Nat) : Bool := ds.all fun d => l.getD d true || (decide (d < T.length) && (B.getD d 0).testBit i)
def takeW (T : Bool × List (List Nat × List Nat)) (B : List Nat) (ds : List Nat) (l l' : List Bool) (i : Nat) : Bool := T.1 && freeT T.2 l i && readyAt T.2 l i && closedT T.2 l && lastW T.2 B l ds i && (l.set i true == l')
theorem take_ofW {B : List Nat} (hT : rtab md ops = T) (hB : waitsOk T.2 B = true) (h : takeW T B ds l.toList l'.toList i = true) : takeB md ops ds l l' i = true := by
  refine take_of hT ?_
  simp only [takeW, takeT, Bool.and_eq_true] at h ⊢
  obtain ⟨⟨⟨⟨⟨h1, h2⟩, h3⟩, h4⟩, h5⟩, h6⟩ := h
  refine ⟨⟨⟨⟨⟨h1, h2⟩, h3⟩, h4⟩, ?_⟩, h6⟩
  unfold lastW at h5
  unfold lastT
  rw [List.all_eq_true] at h5 ⊢
  intro d hd
  have h7 := h5 d hd
  rw [Bool.or_eq_true, Bool.and_eq_true, decide_eq_true_eq] at h7
  rcases h7 with h7 | ⟨h8, h9⟩
  · rw [h7, Bool.true_or]
  · rw [reach_bit hB _ d h8 h8 h9, Bool.or_true]
theorem with_tabW {P : Program} {Q : Exit → Act → World → Prop} {S : World → Prop} {n : Nat} {a : Act} {w : World} {B : List Nat} (hT : rtab md ops = T) (hB : waitsOk T.2 B = true) (h : Aside0 (rtab md ops = T) → Aside0 (waitsOk T.2 B = true) → wpAnyLast P md ops Q S ds n l a w) : wpAnyLast P md ops Q S ds n l a w := h ⟨hT⟩ ⟨hB⟩
end
def opsIn : Code → Nat → Option (Array Oper)
  | .region id ops _, k => if id == k then some ops else none
  | .seq a b, k => match opsIn a k with
    | some o => some o
    | none => opsIn b k
  | .cond _ a b, k => match opsIn a k with
    | some o => some o
    | none => opsIn b k
  | .block _ c, k => opsIn c k
  | .loop c, k => opsIn c k
  | .scope c, k => opsIn c k
  | .rangeFunc _ _ a b, k => match opsIn a k with
    | some o => some o
    | none => opsIn b k
  | _, _ => none
def opsOf (f : Func) (k : Nat) : Array Oper := ((f.body.bind fun c => opsIn c k)).getD #[]
end Go.Proofs.YtbnonnogkgbpiaaDoorW.PrintLast
end
section
namespace Go.Proofs.YtbnonnogkgbpiaaDoorW.PrintLast
def up (b : Nat → Bool) (i : Nat) : Nat → Bool := fun j => if j = i then true else b j
section
variable {P : Program} {ops : Array Oper} {Q : Exit → Act → World → Prop} {md : Region.Mode} {T : Bool × List (List Nat × List Nat)} {B : List Nat} {O : List Nat} {b : Nat → Bool} {i j n : Nat}
end
end Go.Proofs.YtbnonnogkgbpiaaDoorW.PrintLast
end
section
namespace Go.Proofs.YtbnonnogkgbpiaaDoor.MapI
open Go Go.RowKit Go.Maps Go.Proofs.YtbnonnogkgbpiaaDoorW.PrintWords
set_option linter.unusedVariables false
def MapI (W : World) (k : TypeId) (b s : Nat) (f : Lit → Option Int) : Prop :=
  ∃ D : DataW Unit, W.ownsMap Tryd.prog k (plainElem Tryd.prog 3) b s D ∧ Maps.size D = s ∧ (∀ kl, Maps.has D kl = (f kl).isSome) ∧ ∀ kl c, f kl = some c → D.atKey kl (.lit (.int .i64 0)) = .lit (.int .i64 c)
def upd (f : Lit → Option Int) (k : Lit) (v : Int) (x : Lit) : Option Int := if x.sameKey k = true then some v else f x
section
variable {W W' : World} {k t : TypeId} {b s : Nat} {f : Lit → Option Int}
theorem MapI.made (W : World) (k : TypeId) : MapI (W.alloc (.map #[] 0)) k W.heap.size 0 (fun _ => none) :=
  ⟨.map [], World.ownsMap_made W _ _ _, rfl, fun _ => rfl, fun _ _ h => by cases h⟩
theorem MapI.obj {W : World} {k : TypeId} {b s : Nat} {f : Lit → Option Int} (h : MapI W k b s f) : ∃ es c, W.heap[b]? = some (.map es c) := by
  obtain ⟨D, ⟨es, c, hb, _⟩, _⟩ := h
  exact ⟨es, c, hb⟩
theorem MapI.lt (h : MapI W k b s f) : b < W.heap.size := by
  obtain ⟨D, h, _⟩ := h
  exact h.lt
theorem MapI.kept {row : Option Nat} (h : MapI W k b s f) (hg : W.grownBy W' row) (hne : some b ≠ row) : MapI W' k b s f := by
  obtain ⟨D, h, r⟩ := h
  exact ⟨D, h.kept hg hne, r⟩
theorem MapI.drew (h : MapI W k b s f) : MapI W.drew k b s f := by
  obtain ⟨D, h, r⟩ := h
  exact ⟨D, h.drew, r⟩
theorem MapI.setCell (h : MapI W k b s f) {a : Addr} (ha : b ≠ a.block) (u : Value) : MapI (W.setCell a u) k b s f := by
  obtain ⟨D, h, r⟩ := h
  exact ⟨D, h.setCell ha u, r⟩
theorem MapI.move (h : MapI W k b s f) (he : W'.heap[b]? = W.heap[b]?) : MapI W' k b s f := by
  obtain ⟨D, ⟨es, clock, hb, r⟩, q⟩ := h
  exact ⟨D, ⟨es, clock, he.trans hb, r⟩, q⟩
theorem MapI.on (h : MapI W k b s f) (hb : Below W.heap.size W W') : MapI W' k b s f := h.move (hb.block b h.lt)
theorem MapI.look (h : MapI W k b s f) (K : Keyed Tryd.prog k) (ht : Tryd.prog.underlying t = some (.map k 3)) {key : Value} {kl : Lit} (hkey : keyOf Tryd.prog k key = some kl) :
    (Instr.lookup t (.map (some b)) key true).run Tryd.prog W = .ok (.tuple #[.int .i64 ((f kl).getD 0), .bool (f kl).isSome]) W := by
  obtain ⟨D, h, hs, hh, ha⟩ := h
  obtain ⟨v, ps, hr, hv⟩ := h.look_ok K ht (Tryd.zeroValue3 W) (plainElem_int Tryd.underlying3 (by decide)) hkey
  obtain ⟨c, rfl, hc, _⟩ := plainElem_int_inv Tryd.underlying3 hv
  rw [hr, hh kl]
  have hc' : D.atKey kl (.lit (.int .i64 0)) = .lit (.int .i64 c) := congrArg Prod.fst hc
  cases hf : f kl with
  | none =>
    have h0 := hh kl
    rw [hf] at h0
    rw [atKey_of_not_has h0] at hc'
    cases hc'
    rfl
  | some q =>
    rw [ha kl q hf] at hc'
    cases hc'
    rfl
theorem MapI.len (h : MapI W k b s f) (ht : Tryd.prog.underlying t = some (.map k 3)) (ty : TypeId) : (Builtin.len_ #[t] ty #[.map (some b)]).run Tryd.prog W = .ok (.int .i64 (s : Int)) W := by
  obtain ⟨D, h, hs, _⟩ := h
  have := h.len ht ty
  rwa [hs] at this
theorem MapI.put (h : MapI W k b s f) (K : Keyed Tryd.prog k) (ht : Tryd.prog.underlying t = some (.map k 3)) (hs : s < maxLen) {key : Value} {kl : Lit} (hkey : keyOf Tryd.prog k key = some kl) (hkl : WideAt.IsKeyLit kl) (hn : f kl = none) (v : Int) (hv : (Lit.int .i64 v).wf = true) :
    ∃ W', (Instr.mapUpdate t (.map (some b)) key (.int .i64 v)).run Tryd.prog W = .ok () W' ∧ MapI W' k b (s + 1) (upd f kl v) ∧ W.grownBy W' (some b) := by
  obtain ⟨D, h, hsz, hh, ha⟩ := h
  obtain ⟨W', hr, ho, ht'⟩ := h.store K ht hs hkey (plainElem_int Tryd.underlying3 hv)
  have h0 := hh kl
  rw [hn] at h0
  refine ⟨W', hr, ⟨_, ho, ?_, ?_, ?_⟩, ht'.grown⟩
  · rw [size_put (h.tidy K), h0, hsz]
    rfl
  · intro x
    unfold upd
    by_cases e : x = kl
    · subst e
      rw [has_put_same h.isMap hkl, if_pos (WideAt.sameKey_self hkl)]
      rfl
    · rw [has_put_other e, hh x, sameKey_ne e, if_neg (by decide)]
  · intro x c hx
    unfold upd at hx
    by_cases e : x = kl
    · subst e
      rw [if_pos (WideAt.sameKey_self hkl)] at hx
      cases hx
      exact atKey_put_same h.isMap hkl _ _
    · rw [sameKey_ne e, if_neg (by decide)] at hx
      rw [atKey_put_other e]
      exact ha x c hx
end
end Go.Proofs.YtbnonnogkgbpiaaDoor.MapI
end
section
namespace Go.Proofs.YtbnonnogkgbpiaaDoor.TreeKeys
open Go Go.RowKit Go.Maps Go.Proofs.YtbnonnogkgbpiaaDoor.MapI
set_option linter.unusedVariables false
theorem laidOut : laidOutB Tryd.prog = true := by kernel_rfl
theorem key8 : Keyed Tryd.prog 5 := int_keyed Tryd.underlying5
theorem keyI : Keyed Tryd.prog 3 := int_keyed Tryd.underlying3
theorem keyP : Keyed Tryd.prog 139 := Keyed.of_law (deep_law_gate laidOut (by decide +kernel) (by decide +kernel) (by kernel_rfl) (by kernel_rfl))
theorem c1 : Tryd.prog.cellsOf 139 = 2 := by kernel_rfl
theorem c2 : Tryd.prog.cellsOf 3 = 1 := by kernel_rfl
theorem lits_int (d : Nat) (x : Int) (hx : (Lit.int .i64 x).wf = true) : Tryd.prog.keyLits (d + 1) 3 [.int .i64 x] = some [.int .i64 x] := by
  unfold Program.keyLits
  rw [Tryd.underlying3]
  simp [hx]
theorem lits_pair (d : Nat) (a b : Int) (ha : (Lit.int .i64 a).wf = true) (hb : (Lit.int .i64 b).wf = true) : Tryd.prog.keyLits (d + 1 + 1) 139 [.int .i64 a, .int .i64 b] = some [.int .i64 a, .int .i64 b] := by
  unfold Program.keyLits
  rw [Tryd.underlying139]
  simp [c1, c2, lits_int d a ha, lits_int d b hb]
theorem hN : Tryd.prog.types.size = 173 := by kernel_rfl
def pk (a b : Int) : Lit := .string (keyBytes [.int .i64 a, .int .i64 b])
theorem pair_key (a b : Int) (ha : (Lit.int .i64 a).wf = true) (hb : (Lit.int .i64 b).wf = true) : keyOf Tryd.prog 139 (.agg #[.int .i64 a, .int .i64 b]) = some (pk a b) := by
  have hk : Tryd.prog.keyType 139 = true := by kernel_rfl
  have hf : Value.formed Tryd.prog 139 (.agg #[.int .i64 a, .int .i64 b]) = true := by kernel_rfl
  unfold keyOf
  rw [Tryd.underlying139]
  simp only [hk, Bool.true_and]
  rw [if_pos hf, hN]
  have h := lits_pair 172 a b ha hb
  show Option.map _ (Tryd.prog.keyLits (172 + 1 + 1) 139 [.int .i64 a, .int .i64 b]) = _
  rw [h]
  rfl
theorem pk_lit (a b : Int) : WideAt.IsKeyLit (pk a b) := trivial
end Go.Proofs.YtbnonnogkgbpiaaDoor.TreeKeys
end
section
namespace Go.Proofs.YtbnonnogkgbpiaaDoor.Forest
open Go Go.RowKit Go.Maps Go.Proofs.YtbnonnogkgbpiaaDoor.MapI Go.Proofs.YtbnonnogkgbpiaaDoor.TreeKeys Go.Proofs.YtbnonnogkgbpiaaDoorW.PrintWords Go.Proofs.YtbnonnogkgbpiaaDoorW.PrintLast Go.Proofs.YtbnonnogkgbpiaaDoorW.PrintMore
set_option linter.unusedVariables false
set_option linter.unusedSimpArgs false
structure Fo where
  st : Int
  nodes : List (Int × List Int)
  lv : Lit → Option Int
  nl : Nat
  rs : Lit → Option Int
  nr : Nat
  en : Lit → Option Int
  ne : Nat
def ncells (l : List (Int × List Int)) (K : List Value) : Nat → List Value
  | 0 => []
  | i + 1 => ncells l K i ++ [.int .u8 (l.getD i (0, [])).1, K.getD i (.slice none 0 0)]
theorem ncells_congr (l l' : List (Int × List Int)) (K K' : List Value) : ∀ i, (∀ j, j < i → l.getD j (0, []) = l'.getD j (0, []) ∧ K.getD j (.slice none 0 0) = K'.getD j (.slice none 0 0)) → ncells l K i = ncells l' K' i
  | 0, _ => rfl
  | i + 1, h => by
    show ncells l K i ++ _ = ncells l' K' i ++ _
    rw [ncells_congr l l' K K' i (fun j hj => h j (by omega)), (h i (by omega)).1, (h i (by omega)).2]
theorem getD_old {α : Type} (l : List α) (x d : α) (j : Nat) (h : j < l.length) : (l ++ [x]).getD j d = l.getD j d := by
  rw [List.getD_eq_getElem?_getD, List.getD_eq_getElem?_getD, List.getElem?_append_left h]
theorem getD_new {α : Type} (l : List α) (x d : α) : (l ++ [x]).getD l.length d = x := by
  rw [List.getD_eq_getElem?_getD, List.getElem?_append_right (Nat.le_refl _), Nat.sub_self]
  rfl
theorem ncells_snoc (l : List (Int × List Int)) (K : List Value) (hK : K.length = l.length) (s : Int) (ks : List Int) (v : Value) : ncells (l ++ [(s, ks)]) (K ++ [v]) (l ++ [(s, ks)]).length = ncells l K l.length ++ [.int .u8 s, v] := by
  rw [List.length_append, List.length_singleton]
  show ncells (l ++ [(s, ks)]) (K ++ [v]) l.length ++ _ = _
  rw [getD_new, ← hK, getD_new, hK]
  rw [ncells_congr (l ++ [(s, ks)]) l (K ++ [v]) K l.length (fun j hj => ⟨getD_old l _ _ j hj, getD_old K _ _ j (by omega)⟩)]
structure FoAt (base : Nat) (W : World) (p : Nat) (F : Fo) (nv : Value) (bl br be : Nat) (K : List Value) : Prop where
  box : W.heap[p]? = some (.cells #[.int .i64 F.st, nv, .map (some bl), .map (some br), .map (some be)] 115 (0, 0))
  gp : base ≤ p
  gl : base ≤ bl
  gr : base ≤ br
  ge : base ≤ be
  lr : bl ≠ br
  le : bl ≠ be
  re : br ≠ be
  row : W.ownsRow base 49 2 nv F.nodes.length (ncells F.nodes K F.nodes.length)
  len : K.length = F.nodes.length
  kid : ∀ (j : Nat) v, K[j]? = some v → W.ownsRow base 3 1 v (F.nodes.getD j (0, [])).2.length (nums .i64 (F.nodes.getD j (0, [])).2)
  kap : ∀ (i j : Nat) u v, i ≠ j → K[i]? = some u → K[j]? = some v → u.ownBlock = none ∨ u.ownBlock ≠ v.ownBlock
  lvm : MapI W 5 bl F.nl F.lv
  rsm : MapI W 139 br F.nr F.rs
  enm : MapI W 3 be F.ne F.en
section
variable {base p bl br be : Nat} {W W' : World} {F : Fo} {nv : Value} {K : List Value}
theorem FoAt.move (h : FoAt base W p F nv bl br be K) (h1 : W'.heap[p]? = W.heap[p]?) (h2 : ∀ k, nv.ownBlock = some k → W'.heap[k]? = W.heap[k]?) (h3 : ∀ v ∈ K, ∀ k, v.ownBlock = some k → W'.heap[k]? = W.heap[k]?) (h4 : W'.heap[bl]? = W.heap[bl]?) (h5 : W'.heap[br]? = W.heap[br]?) (h6 : W'.heap[be]? = W.heap[be]?) : FoAt base W' p F nv bl br be K :=
  ⟨h1.trans h.box, h.gp, h.gl, h.gr, h.ge, h.lr, h.le, h.re, own_move h.row h2, h.len, fun j v hj => own_move (h.kid j v hj) (h3 v (List.mem_of_getElem? hj)), h.kap, h.lvm.move h4, h.rsm.move h5, h.enm.move h6⟩
theorem FoAt.on (h : FoAt base W p F nv bl br be K) (hb : Below W.heap.size W W') : FoAt base W' p F nv bl br be K :=
  h.move (hb.block p (blk_lt h.box)) (fun k hk => hb.block k (own_lt h.row k hk)) (fun v hv k hk => by
    obtain ⟨j, hj, rfl⟩ := List.mem_iff_getElem.1 hv
    exact hb.block k (own_lt (h.kid j _ (List.getElem?_eq_getElem hj)) k hk)) (hb.block bl h.lvm.lt) (hb.block br h.rsm.lt) (hb.block be h.enm.lt)
theorem FoAt.lower {base' : Nat} (h : FoAt base W p F nv bl br be K) (hb : base' ≤ base) : FoAt base' W p F nv bl br be K :=
  ⟨h.box, Nat.le_trans hb h.gp, Nat.le_trans hb h.gl, Nat.le_trans hb h.gr, Nat.le_trans hb h.ge, h.lr, h.le, h.re, own_weaken h.row hb, h.len, fun j v hj => own_weaken (h.kid j v hj) hb, h.kap, h.lvm, h.rsm, h.enm⟩
end
def Fr (w w' : World) : Prop := ∀ (k : Nat) (cs : Array Value) (t : TypeId) (f : Nat × Nat), w.heap[k]? = some (Obj.cells cs t f) → t ≠ 115 → t ≠ 49 → w'.heap[k]? = w.heap[k]?
theorem Fr.refl (w : World) : Fr w w := by
  intro _ _ _ _ _ _ _
  rfl
theorem Fr.trans {w w1 w2 : World} (h : Fr w w1) (g : Fr w1 w2) : Fr w w2 := by
  intro k cs t f hk a b
  exact (g k cs t f ((h k cs t f hk a b).trans hk) a b).trans (h k cs t f hk a b)
theorem Fr.below {w w' : World} (h : Below w.heap.size w w') : Fr w w' := by
  intro k _ _ _ hk _ _
  exact h.block k (blk_lt hk)
theorem Fr.map {w w' : World} {k : TypeId} {b s : Nat} {f : Lit → Option Int} (hm : MapI w k b s f) (hg : w.grownBy w' (some b)) : Fr w w' := by
  intro q cs t f' hk _ _
  exact hg.block q (blk_lt hk) (fun e => by
    cases e
    obtain ⟨es, c, hb⟩ := hm.obj
    rw [hb] at hk
    cases hk)
theorem Fr.row {w w' : World} {base n size : Nat} {v : Value} {xs : List Value} (h : w.ownsRow base 49 size v n xs) (hg : w.grownBy w' v.ownBlock) : Fr w w' := by
  intro q cs t f hk _ hne
  exact hg.block q (blk_lt hk) (fun e => by
    obtain ⟨cs', hc⟩ := own_typed h q e.symm
    rw [hc] at hk
    injection hk with hk
    injection hk with _ hk
    exact hne hk.symm)
theorem Fr.set {w : World} {p j : Nat} {v : Value} {cs : Array Value} {f : Nat × Nat} (h : w.heap[p]? = some (.cells cs 115 f)) : Fr w (w.setCell ⟨p, j, none⟩ v) := by
  intro q cs' t f' hk hne _
  exact Below.heap_setCell _ ⟨p, j, none⟩ _ _ (fun e => by
    rw [show q = p from e, h] at hk
    injection hk with hk
    injection hk with _ hk
    exact hne hk.symm)
def KNew (w : World) (K K' : List Value) : Prop := ∀ v ∈ K', v ∈ K ∨ ∀ k, v.ownBlock = some k → w.heap.size ≤ k
theorem KNew.refl (w : World) (K : List Value) : KNew w K K := by
  intro v hv
  exact .inl hv
theorem KNew.trans {w w1 : World} {K K1 K2 : List Value} (h : KNew w K K1) (g : KNew w1 K1 K2) (hs : w.heap.size ≤ w1.heap.size) : KNew w K K2 := by
  intro v hv
  rcases g v hv with h1 | h1
  · exact h v h1
  · exact .inr (fun k hk => Nat.le_trans hs (h1 k hk))
theorem KNew.snoc {w : World} {K : List Value} {v : Value} (h : ∀ k, v.ownBlock = some k → w.heap.size ≤ k) : KNew w K (K ++ [v]) := by
  intro u hu
  rcases List.mem_append.1 hu with hu | hu
  · exact .inl hu
  · rw [List.mem_singleton.1 hu]
    exact .inr h
end Go.Proofs.YtbnonnogkgbpiaaDoor.Forest
end
section
namespace Go.Proofs.YtbnonnogkgbpiaaDoor.Forest
open Go Go.RowKit Go.Maps Go.Proofs.YtbnonnogkgbpiaaDoor.MapI Go.Proofs.YtbnonnogkgbpiaaDoor.TreeKeys Go.Proofs.YtbnonnogkgbpiaaDoorW.PrintWords Go.Proofs.YtbnonnogkgbpiaaDoorW.PrintLast Go.Proofs.YtbnonnogkgbpiaaDoorW.PrintMore
set_option linter.unusedVariables false
set_option linter.unusedSimpArgs false
def Fo.newLeaf (F : Fo) (s : Int) : Fo := { F with nodes := F.nodes ++ [(s, [])], lv := upd F.lv (.int .u8 s) (F.nodes.length : Int), nl := F.nl + 1 }
def Fo.leaf (F : Fo) (s : Int) : Fo × Int := match F.lv (.int .u8 s) with
  | some id => (F, id)
  | none => (F.newLeaf s, (F.nodes.length : Int))
theorem wp_put {P : Program} {W : World} {ops : Array Oper} {rest : List Oper} {o : Oper} {a : Act} {Q : Exit → Act → World → Prop} (hg : o.guard = none) (m x v : Operand) (t : TypeId) (hop : o.op = Op.mapUpdate t m x v) {b : Nat} {key val : Value}
    (hm : a.eval m = .map (some b)) (hx : a.eval x = key) (hv : a.eval v = val) {R : World → Prop} (h : ∃ W', (Instr.mapUpdate t (.map (some b)) key val).run P W = .ok () W' ∧ R W') (hK : ∀ W', R W' → wpList P ops Q rest (a.put o.dst undef) W') : wpList P ops Q (o :: rest) a W := by
  refine wpList_plain hg fun K' hK' => ?_
  obtain ⟨w', hrun, r1⟩ := h
  unfold Oper.wp
  simp [execOp, hop, hm, hx, hv, hrun, Result.andThen]
  exact hK' _ _ (hK w' r1)
set_option maxHeartbeats 4000000 in
set_option maxRecDepth 100000 in
theorem leaf_old (base p : Nat) (F : Fo) (nv : Value) (bl br be : Nat) (K : List Value) (s id : Int) (w : World) (h : FoAt base w p F nv bl br be K) (hs : (Lit.int .u8 s).wf = true) (hf : F.lv (.int .u8 s) = some id) :
    Calls Tryd.prog 63 #[.pointer (some ⟨p, 0, none⟩), .int .u8 s] w fun e w' => e = .returned (.int .i64 id) ∧ w' = w := by
  have c2_ := (blk_cell h.box 2).trans (show _ = some (Value.map (some bl)) from rfl)
  have hlook := h.lvm.look (t := 112) key8 Tryd.underlying112 (keyOf_int_mk Tryd.underlying5 hs)
  rw [hf] at hlook
  go_enter Tryd.func63, Tryd.ntmps63
  go_wp2
  go_ret
  exact ⟨rfl, rfl⟩
theorem ne_map {W : World} {b k : Nat} {es : Array MapEntry} {c : Nat} {cs : Array Value} {t : TypeId} (h : W.heap[b]? = some (.map es c)) (h' : W.heap[k]? = some (.cells cs t (0, 0))) : k ≠ b := by
  rintro rfl
  rw [h] at h'
  cases h'
theorem ne_own {W : World} {b base n size : Nat} {e : TypeId} {v : Value} {xs : List Value} {es : Array MapEntry} {c : Nat} (h : W.heap[b]? = some (.map es c)) (h' : W.ownsRow base e size v n xs) : v.ownBlock ≠ some b := by
  intro hk
  obtain ⟨cs, hc⟩ := own_typed h' b hk
  rw [h] at hc
  cases hc
theorem FoAt.putl {base p bl br be : Nat} {W W' : World} {F : Fo} {nv : Value} {K : List Value} (h : FoAt base W p F nv bl br be K) {f : Lit → Option Int} {n : Nat} (hm : MapI W' 5 bl n f) (hg : W.grownBy W' (some bl)) : FoAt base W' p { F with lv := f, nl := n } nv bl br be K := by
  obtain ⟨es, c, hb⟩ := h.lvm.obj
  have g : ∀ k, k < W.heap.size → k ≠ bl → W'.heap[k]? = W.heap[k]? := fun k hk hne => hg.block k hk (by simpa using hne)
  exact ⟨(g p (blk_lt h.box) (ne_map hb h.box)).trans h.box, h.gp, h.gl, h.gr, h.ge, h.lr, h.le, h.re, own_move h.row (fun k hk => g k (own_lt h.row k hk) (fun e => ne_own hb h.row (e ▸ hk))), h.len,
    fun j v hj => own_move (h.kid j v hj) (fun k hk => g k (own_lt (h.kid j v hj) k hk) (fun e => ne_own hb (h.kid j v hj) (e ▸ hk))), h.kap, hm, h.rsm.move (g br h.rsm.lt (Ne.symm h.lr)), h.enm.move (g be h.enm.lt (Ne.symm h.le))⟩
theorem FoAt.snoc {base p bl br be : Nat} {W W' : World} {F : Fo} {nv : Value} {K : List Value} (h : FoAt base W p F nv bl br be K) (s : Int) (ks : List Int) (v v1 : Value) (hg : W.grownBy W' nv.ownBlock)
    (ho : W'.ownsRow base 49 2 v1 (F.nodes.length + 1) (ncells F.nodes K F.nodes.length ++ [.int .u8 s, v])) (hv : W'.ownsRow base 3 1 v ks.length (nums .i64 ks)) (hk : ∀ u ∈ K, u.ownBlock = none ∨ u.ownBlock ≠ v.ownBlock) :
    FoAt base (W'.setCell ⟨p, 1, none⟩ v1) p { F with nodes := F.nodes ++ [(s, ks)] } v1 bl br be (K ++ [v]) := by
  have hpn : some p ≠ nv.ownBlock := fun e => by
    obtain ⟨cs, hc⟩ := own_typed h.row p e.symm
    rw [h.box] at hc
    injection hc with hc
    injection hc with _ hc
    exact absurd hc (by decide)
  have hb := blk_grown h.box hg hpn
  have far : ∀ k, k ≠ p → (W'.setCell ⟨p, 1, none⟩ v1).heap[k]? = W'.heap[k]? := fun k hk => Below.heap_setCell _ ⟨p, 1, none⟩ _ _ hk
  have hmap : ∀ b es c, W.heap[b]? = some (.map es c) → W'.heap[b]? = W.heap[b]? ∧ b ≠ p := fun b es c hm => ⟨hg.block b (blk_lt hm) (fun e => ne_own hm h.row e.symm), fun e => ne_map hm h.box e.symm⟩
  have hm : ∀ {k : TypeId} {b s : Nat} {f : Lit → Option Int}, MapI W k b s f → MapI (W'.setCell ⟨p, 1, none⟩ v1) k b s f := fun {k b s f} h2 => by
    obtain ⟨es, c, hb2⟩ := h2.obj
    exact h2.move ((far b (hmap b es c hb2).2).trans (hmap b es c hb2).1)
  have oth : ∀ {u : Value} {n : Nat} {xs : List Value}, W'.ownsRow base 3 1 u n xs → (W'.setCell ⟨p, 1, none⟩ v1).ownsRow base 3 1 u n xs := fun {u n xs} h2 => own_move h2 (fun k hk => far k (fun e => by
    obtain ⟨cs, hc⟩ := own_typed h2 k hk
    rw [e, hb] at hc
    injection hc with hc
    injection hc with _ hc
    exact absurd hc (by decide)))
  have kids : ∀ (j : Nat) u, K[j]? = some u → W'.ownsRow base 3 1 u (F.nodes.getD j (0, [])).2.length (nums .i64 (F.nodes.getD j (0, [])).2) := fun j u hj => own_move (h.kid j u hj) (fun k hk => hg.block k (own_lt (h.kid j u hj) k hk) (fun e => by
    obtain ⟨cs, hc⟩ := own_typed (h.kid j u hj) k hk
    obtain ⟨cs', hc'⟩ := own_typed h.row k e.symm
    rw [hc] at hc'
    injection hc' with hc'
    injection hc' with _ hc'
    exact absurd hc' (by decide)))
  refine ⟨blk_put hb 1 v1 rfl, h.gp, h.gl, h.gr, h.ge, h.lr, h.le, h.re, ?_, by simp [h.len], ?_, ?_, hm h.lvm, hm h.rsm, hm h.enm⟩
  · show (W'.setCell ⟨p, 1, none⟩ v1).ownsRow base 49 2 v1 (F.nodes ++ [(s, ks)]).length (ncells (F.nodes ++ [(s, ks)]) (K ++ [v]) (F.nodes ++ [(s, ks)]).length)
    rw [ncells_snoc F.nodes K h.len s ks v]
    have e : (F.nodes ++ [(s, ks)]).length = F.nodes.length + 1 := by simp
    rw [e]
    exact own_move ho (fun k hk => far k (fun e => by
      obtain ⟨cs, hc⟩ := own_typed ho k hk
      rw [e, hb] at hc
      injection hc with hc
      injection hc with _ hc
      exact absurd hc (by decide)))
  · intro j u hj
    show (W'.setCell ⟨p, 1, none⟩ v1).ownsRow base 3 1 u ((F.nodes ++ [(s, ks)]).getD j (0, [])).2.length (nums .i64 ((F.nodes ++ [(s, ks)]).getD j (0, [])).2)
    by_cases hl : j < K.length
    · rw [List.getElem?_append_left hl] at hj
      rw [getD_old F.nodes _ _ j (by rw [← h.len]; exact hl)]
      exact oth (kids j u hj)
    · rw [List.getElem?_append_right (by omega)] at hj
      have e : j = K.length := by
        have := (List.getElem?_eq_some_iff.1 hj).1
        simp at this
        omega
      subst e
      rw [Nat.sub_self] at hj
      cases hj
      rw [h.len, getD_new]
      exact oth hv
  · intro i j u x hij hi hj
    by_cases hl : i < K.length
    · rw [List.getElem?_append_left hl] at hi
      by_cases hl2 : j < K.length
      · rw [List.getElem?_append_left hl2] at hj
        exact h.kap i j u x hij hi hj
      · rw [List.getElem?_append_right (by omega)] at hj
        have e : j - K.length = 0 := by
          have := (List.getElem?_eq_some_iff.1 hj).1
          simp at this
          omega
        rw [e] at hj
        cases hj
        exact hk u (List.mem_of_getElem? hi)
    · rw [List.getElem?_append_right (by omega)] at hi
      have e : i - K.length = 0 := by
        have := (List.getElem?_eq_some_iff.1 hi).1
        simp at this
        omega
      rw [e] at hi
      cases hi
      by_cases hl2 : j < K.length
      · rw [List.getElem?_append_left hl2] at hj
        rcases hk x (List.mem_of_getElem? hj) with h0 | h0
        · rcases hu : v.ownBlock with _ | q
          · exact .inl rfl
          · right
            rw [h0]
            simp
        · exact .inr (Ne.symm h0)
      · rw [List.getElem?_append_right (by omega)] at hj
        have := (List.getElem?_eq_some_iff.1 hj).1
        simp at this
        omega
set_option maxHeartbeats 4000000 in
set_option maxRecDepth 100000 in
theorem leaf_new (base p : Nat) (F : Fo) (nv : Value) (bl br be : Nat) (K : List Value) (s : Int) (w : World) (h : FoAt base w p F nv bl br be K) (hbw : base ≤ w.heap.size) (hs : (Lit.int .u8 s).wf = true) (hf : F.lv (.int .u8 s) = none) (hn : F.nodes.length ≤ 100000000) (hnl : F.nl ≤ 100000000) :
    Calls Tryd.prog 63 #[.pointer (some ⟨p, 0, none⟩), .int .u8 s] w fun e w' => e = .returned (.int .i64 (F.nodes.length : Int)) ∧ ∃ nv', FoAt base w' p (F.newLeaf s) nv' bl br be (K ++ [.slice none 0 0]) ∧ Below base w w' ∧ Fr w w' := by
  obtain ⟨A, c, rfl⟩ := own_slice h.row
  have H := Aside0.mk h
  have c2_ := (blk_cell h.box 2).trans (show _ = some (Value.map (some bl)) from rfl)
  have c1_ := (blk_cell h.box 1).trans (show _ = some (Value.slice A F.nodes.length c) from rfl)
  have hlook := h.lvm.look (t := 112) key8 Tryd.underlying112 (keyOf_int_mk Tryd.underlying5 hs)
  rw [hf] at hlook
  have hmx : (100000001 : Nat) ≤ maxLen := by decide
  have hwf : (Lit.int .i64 (F.nodes.length : Int)).wf = true := by
    simp [Lit.wf, IntKind.min, IntKind.max, IntKind.bits, IntKind.signed]
    omega
  have hub := Tryd.underlying49
  clear h
  go_enter Tryd.func63, Tryd.ntmps63
  go_wp2_with (first
    | (at_mapUpdate; refine wp_put rfl _ _ _ _ rfl rfl rfl rfl (H.out.lvm.put (t := 112) key8 Tryd.underlying112 (by omega) (keyOf_int_mk Tryd.underlying5 hs) trivial hf (F.nodes.length : Int) hwf) ?_; rintro w1 ⟨hm1, hg1⟩; have H1 := Aside0.mk (H.out.putl hm1 hg1); have R1 := Aside0.mk (Fr.map H.out.lvm hg1); have HB1 := Aside0.mk ((Below.refl base w).grown hg1 hbw (fun k hk => by cases hk; exact H.out.gl)); clear hlook c1_ c2_ hm1 hg1; have c1_ := (blk_cell H1.out.box 1).trans (show _ = some (Value.slice A F.nodes.length c) from rfl); have f1_ := blk_frozen H1.out.box 1)
    | (at_builtin; refine print_append_cells (w0 := w) (W := w1) base rfl (.tmp 33) (.tmp 36) 22 49 (.agg #[.int .u8 0, .slice none 0 0]) 2 32 rfl Tryd.underlying22 (by kernel_rfl) rfl (by decide) (by decide) _ F.nodes.length (ncells F.nodes K F.nodes.length) [.int .u8 s, .slice none 0 0] rfl (by first | rfl | (go_simp; done) | (simp [Act.eval]; done)) rfl (by intro u hu; simp at hu; rcases hu with rfl | rfl <;> rfl) H1.out.row HB1.out (Nat.le_trans hbw HB1.out.size) (by omega) ?_; intro v1_ w2 ho_ hb_ hg_ hat_; replace hg_ : w1.grownBy w2 (Value.slice A F.nodes.length c).ownBlock := hg_; obtain ⟨g2, cp2, e2, _⟩ := ho_.form (by omega); subst e2; have H2 := Aside0.mk (H1.out.snoc s [] (.slice none 0 0) _ hg_ ho_ (own_nil _ _ _ _) (fun u _ => Classical.em (u.ownBlock = none))); have HB2 := Aside0.mk hb_; have R2 := Aside0.mk (R1.out.trans (Fr.row H1.out.row hg_)); clear c1_ f1_; have hbx := blk_grown H1.out.box hg_ (fun e => by obtain ⟨cs, hc⟩ := own_typed H1.out.row p e.symm; rw [H1.out.box] at hc; injection hc with hc; injection hc with _ hc; exact absurd hc (by decide)); have R3 := Aside0.mk (R2.out.trans (Fr.set (j := 1) (v := Value.slice (some ⟨g2, 0, none⟩) (F.nodes.length + 1) cp2) hbx)); have c1_ := blk_cell hbx 1; have f1_ := blk_frozen hbx 1; clear ho_ hb_ hg_ hat_ hbx))
  go_ret
  exact ⟨rfl, ⟨_, H2.out⟩, HB2.out.setCell H1.out.gp _, R3.out⟩
theorem leaf_calls (base p : Nat) (F : Fo) (nv : Value) (bl br be : Nat) (K : List Value) (s : Int) (w : World) (h : FoAt base w p F nv bl br be K) (hbw : base ≤ w.heap.size) (hs : (Lit.int .u8 s).wf = true) (hn : F.nodes.length ≤ 100000000) (hnl : F.nl ≤ 100000000) :
    Calls Tryd.prog 63 #[.pointer (some ⟨p, 0, none⟩), .int .u8 s] w fun e w' => e = .returned (.int .i64 (F.leaf s).2) ∧ ∃ nv' K', FoAt base w' p (F.leaf s).1 nv' bl br be K' ∧ Below base w w' ∧ Fr w w' ∧ KNew w K K' := by
  unfold Fo.leaf
  rcases hf : F.lv (.int .u8 s) with _ | id
  · refine (leaf_new base p F nv bl br be K s w h hbw hs hf hn hnl).mono ?_
    rintro e w' ⟨rfl, nv', h1, h2, h3⟩
    exact ⟨rfl, nv', _, h1, h2, h3, KNew.snoc (fun k hk => by cases hk)⟩
  · refine (leaf_old base p F nv bl br be K s id w h hs hf).mono ?_
    rintro e w' ⟨rfl, rfl⟩
    exact ⟨rfl, nv, K, h, Below.refl _ _, Fr.refl _, KNew.refl _ _⟩
end Go.Proofs.YtbnonnogkgbpiaaDoor.Forest
end
section
namespace Go.Proofs.YtbnonnogkgbpiaaDoor.Clone
open Go Go.RowKit Go.Proofs.YtbnonnogkgbpiaaDoorW.PrintWords Go.Proofs.YtbnonnogkgbpiaaDoorW.PrintLast Go.Proofs.YtbnonnogkgbpiaaDoorW.PrintMore
set_option linter.unusedVariables false
set_option linter.unusedSimpArgs false
set_option maxHeartbeats 4000000 in
set_option maxRecDepth 100000 in
theorem ints (A : Addr) (n c : Nat) (xs : List Int) (w : World) (hr : ReadsInt w .i64 (some A) n xs) (hn : n * 8 ≤ 140737488355328) :
    Calls Tryd.prog 86 #[.slice (some A) n c] w fun e w' => ∃ v, e = .returned v ∧ w'.ownsRow w.heap.size 3 1 v n (nums .i64 xs) ∧ Below w.heap.size w w' ∧ v ≠ .slice none 0 0 := by
  have hr2 := hr.allocS (.cells #[] 3)
  have h0 := own_lit w w.heap.size 3 .i64 [] (Nat.le_refl _) (by simp)
  have hB := Aside0.mk ((Below.refl w.heap.size w).alloc (Nat.le_refl _) (.cells #[] 3))
  have hx : xs.length = n := hr.1
  have heq : Sem.run Tryd.prog (binOp BinOp.eql 47 (Value.slice (some A) n c) (Value.slice none 0 0)) w = .ok (.bool false) w := rfl
  go_enter Tryd.func86, Tryd.ntmps86
  go_wp2_with (at_builtin; refine print_append_row (w0 := w) (W := w.alloc (.cells #[] 3)) w.heap.size rfl (.tmp 5) (.tmp 6) 47 3 .i64 8 rfl Tryd.underlying47 (by kernel_rfl) (by decide) (.slice (some ⟨w.heap.size, 0, none⟩) 0 0) [] xs (some A) n c rfl rfl h0 hr2 hB.out hB.out.size (by simp; omega) ?_; intro v1_ w2 ho_ hb_ hg_ hat_; have HO := Aside0.mk ho_; have HB2 := Aside0.mk hb_; have HN : v1_ ≠ .slice none 0 0 := (by rintro rfl; rcases hat_ with h | ⟨b, h, _⟩ <;> cases h); clear ho_ hb_ hg_ hat_)
  go_ret
  exact ⟨v1_, rfl, by have := HO.out; rw [List.nil_append, hx] at this; exact this, HB2.out, HN⟩
set_option maxHeartbeats 4000000 in
set_option maxRecDepth 100000 in
theorem bytes (A : Addr) (n c : Nat) (xs : List Int) (w : World) (hr : ReadsInt w .u8 (some A) n xs) (hn : n ≤ 140737488355328) :
    Calls Tryd.prog 72 #[.slice (some A) n c] w fun e w' => ∃ v, e = .returned v ∧ w'.ownsRow w.heap.size 5 1 v n (nums .u8 xs) ∧ Below w.heap.size w w' ∧ v ≠ .slice none 0 0 := by
  have hr2 := hr.allocS (.cells #[] 5)
  have h0 := own_lit w w.heap.size 5 .u8 [] (Nat.le_refl _) (by simp)
  have hB := Aside0.mk ((Below.refl w.heap.size w).alloc (Nat.le_refl _) (.cells #[] 5))
  have hx : xs.length = n := hr.1
  have heq : Sem.run Tryd.prog (binOp BinOp.eql 33 (Value.slice (some A) n c) (Value.slice none 0 0)) w = .ok (.bool false) w := rfl
  go_enter Tryd.func72, Tryd.ntmps72
  go_wp2_with (at_builtin; refine print_append_row (w0 := w) (W := w.alloc (.cells #[] 5)) w.heap.size rfl (.tmp 5) (.tmp 6) 33 5 .u8 1 rfl Tryd.underlying33 (by kernel_rfl) (by decide) (.slice (some ⟨w.heap.size, 0, none⟩) 0 0) [] xs (some A) n c rfl rfl h0 hr2 hB.out hB.out.size (by simp; omega) ?_; intro v1_ w2 ho_ hb_ hg_ hat_; have HO := Aside0.mk ho_; have HB2 := Aside0.mk hb_; have HN : v1_ ≠ .slice none 0 0 := (by rintro rfl; rcases hat_ with h | ⟨b, h, _⟩ <;> cases h); clear ho_ hb_ hg_ hat_)
  go_ret
  exact ⟨v1_, rfl, by have := HO.out; rw [List.nil_append, hx] at this; exact this, HB2.out, HN⟩
end Go.Proofs.YtbnonnogkgbpiaaDoor.Clone
end
section
namespace Go.Proofs.YtbnonnogkgbpiaaDoor.Forest
open Go Go.RowKit Go.Maps Go.Proofs.YtbnonnogkgbpiaaDoor.MapI Go.Proofs.YtbnonnogkgbpiaaDoor.TreeKeys Go.Proofs.YtbnonnogkgbpiaaDoorW.PrintWords Go.Proofs.YtbnonnogkgbpiaaDoorW.PrintLast Go.Proofs.YtbnonnogkgbpiaaDoorW.PrintMore
set_option linter.unusedVariables false
set_option linter.unusedSimpArgs false
def Fo.step (F : Fo) (row k : Int) : Fo × Int := match F.rs (pk row k) with
  | some r => (F, r)
  | none => ({ F with rs := upd F.rs (pk row k) ((F.nr : Int) + 1), nr := F.nr + 1 }, (F.nr : Int) + 1)
def Fo.rowTo (F : Fo) (ks : List Int) : Nat → Fo × Int
  | 0 => (F, 0)
  | i + 1 => (F.rowTo ks i).1.step (F.rowTo ks i).2 (rd ks i)
def Fo.newBranch (F : Fo) (row : Int) (ks : List Int) : Fo := { F with nodes := F.nodes ++ [(0, ks)], en := upd F.en (.int .i64 row) (F.nodes.length : Int), ne := F.ne + 1 }
def Fo.ended (F : Fo) (row : Int) (ks : List Int) : Fo × Int := match F.en (.int .i64 row) with
  | some id => (F, id)
  | none => (F.newBranch row ks, (F.nodes.length : Int))
def Fo.branch (F : Fo) (ks : List Int) : Fo × Int := (F.rowTo ks ks.length).1.ended (F.rowTo ks ks.length).2 ks
def Fo.Fine (F : Fo) : Prop := ∀ kl r, F.rs kl = some r → 0 ≤ r ∧ r ≤ F.nr
theorem Fo.Fine.step {F : Fo} (h : F.Fine) (row k : Int) : (F.step row k).1.Fine ∧ 0 ≤ (F.step row k).2 ∧ (F.step row k).2 ≤ (F.step row k).1.nr ∧ (F.step row k).1.nr ≤ F.nr + 1 ∧ (F.step row k).1.nodes = F.nodes ∧ (F.step row k).1.st = F.st ∧ (F.step row k).1.en = F.en ∧ (F.step row k).1.ne = F.ne := by
  unfold Fo.step
  rcases hr : F.rs (pk row k) with _ | r
  · refine ⟨?_, by simp; omega, by simp, by simp, rfl, rfl, rfl, rfl⟩
    intro kl r hk
    simp only [upd] at hk
    split at hk
    · cases hk
      exact ⟨by omega, by simp⟩
    · have := h kl r hk
      exact ⟨this.1, by simp; omega⟩
  · have := h _ r hr
    exact ⟨h, this.1, this.2, by simp, rfl, rfl, rfl, rfl⟩
theorem Fo.Fine.rowTo {F : Fo} (h : F.Fine) (ks : List Int) : ∀ i, (F.rowTo ks i).1.Fine ∧ 0 ≤ (F.rowTo ks i).2 ∧ (F.rowTo ks i).2 ≤ (F.rowTo ks i).1.nr ∧ (F.rowTo ks i).1.nr ≤ F.nr + i ∧ (F.rowTo ks i).1.nodes = F.nodes ∧ (F.rowTo ks i).1.st = F.st ∧ (F.rowTo ks i).1.en = F.en ∧ (F.rowTo ks i).1.ne = F.ne
  | 0 => ⟨h, Int.le_refl _, by show (0 : Int) ≤ _; omega, Nat.le_refl _, rfl, rfl, rfl, rfl⟩
  | i + 1 => by
    obtain ⟨h1, h2, h3, h4, h5, h6, h7, h8⟩ := h.rowTo ks i
    obtain ⟨g1, g2, g3, g4, g5, g6, g7, g8⟩ := h1.step (F.rowTo ks i).2 (rd ks i)
    exact ⟨g1, g2, g3, by show ((F.rowTo ks i).1.step (F.rowTo ks i).2 (rd ks i)).1.nr ≤ _; omega, g5.trans h5, g6.trans h6, g7.trans h7, g8.trans h8⟩
theorem FoAt.putr {base p bl br be : Nat} {W W' : World} {F : Fo} {nv : Value} {K : List Value} (h : FoAt base W p F nv bl br be K) {f : Lit → Option Int} {n : Nat} (hm : MapI W' 139 br n f) (hg : W.grownBy W' (some br)) : FoAt base W' p { F with rs := f, nr := n } nv bl br be K := by
  obtain ⟨es, c, hb⟩ := h.rsm.obj
  have g : ∀ k, k < W.heap.size → k ≠ br → W'.heap[k]? = W.heap[k]? := fun k hk hne => hg.block k hk (by simpa using hne)
  exact ⟨(g p (blk_lt h.box) (ne_map hb h.box)).trans h.box, h.gp, h.gl, h.gr, h.ge, h.lr, h.le, h.re, own_move h.row (fun k hk => g k (own_lt h.row k hk) (fun e => ne_own hb h.row (e ▸ hk))), h.len,
    fun j v hj => own_move (h.kid j v hj) (fun k hk => g k (own_lt (h.kid j v hj) k hk) (fun e => ne_own hb (h.kid j v hj) (e ▸ hk))), h.kap, h.lvm.move (g bl h.lvm.lt h.lr), hm, h.enm.move (g be h.enm.lt (Ne.symm h.re))⟩
theorem FoAt.pute {base p bl br be : Nat} {W W' : World} {F : Fo} {nv : Value} {K : List Value} (h : FoAt base W p F nv bl br be K) {f : Lit → Option Int} {n : Nat} (hm : MapI W' 3 be n f) (hg : W.grownBy W' (some be)) : FoAt base W' p { F with en := f, ne := n } nv bl br be K := by
  obtain ⟨es, c, hb⟩ := h.enm.obj
  have g : ∀ k, k < W.heap.size → k ≠ be → W'.heap[k]? = W.heap[k]? := fun k hk hne => hg.block k hk (by simpa using hne)
  exact ⟨(g p (blk_lt h.box) (ne_map hb h.box)).trans h.box, h.gp, h.gl, h.gr, h.ge, h.lr, h.le, h.re, own_move h.row (fun k hk => g k (own_lt h.row k hk) (fun e => ne_own hb h.row (e ▸ hk))), h.len,
    fun j v hj => own_move (h.kid j v hj) (fun k hk => g k (own_lt (h.kid j v hj) k hk) (fun e => ne_own hb (h.kid j v hj) (e ▸ hk))), h.kap, h.lvm.move (g bl h.lvm.lt h.le), h.rsm.move (g br h.rsm.lt h.re), hm⟩
theorem own_putm {W W' : World} {k : TypeId} {b s base n size : Nat} {f : Lit → Option Int} {e : TypeId} {v : Value} {xs : List Value} (hm : MapI W k b s f) (h : W.ownsRow base e size v n xs) (hg : W.grownBy W' (some b)) : W'.ownsRow base e size v n xs := by
  obtain ⟨es, c, hb⟩ := hm.obj
  exact own_move h (fun q hq => hg.block q (own_lt h q hq) (by
    intro e
    cases e
    exact ne_own hb h hq))
theorem own_ge {w : World} {base : Nat} {e : TypeId} {size n : Nat} {v : Value} {xs : List Value} (h : w.ownsRow base e size v n xs) (k : Nat) (hk : v.ownBlock = some k) : base ≤ k := by
  rcases h.2 with ⟨rfl, _⟩ | ⟨g, cap, cur, rfl, hb, _⟩
  · cases hk
  · cases hk
    exact hb
theorem wf64 {x : Int} (h0 : 0 ≤ x) (h1 : x ≤ 4000000000) : (Lit.int .i64 x).wf = true := by
  simp [Lit.wf, IntKind.min, IntKind.max, IntKind.bits, IntKind.signed]
  omega
set_option maxHeartbeats 4000000 in
set_option maxRecDepth 100000 in
theorem branch_calls (base p : Nat) (F : Fo) (nv : Value) (bl br be : Nat) (K0 : List Value) (g cap : Nat) (ks : List Int) (w : World) (h : FoAt base w p F nv bl br be K0) (hbw : base ≤ w.heap.size) (hF : F.Fine)
    (ho : w.ownsRow base 3 1 (.slice (some ⟨g, 0, none⟩) ks.length cap) ks.length (nums .i64 ks)) (hk : ∀ k ∈ ks, 0 ≤ k ∧ k ≤ 100000000) (hl : ks.length ≤ 100000000) (hnr : F.nr ≤ 1000000000) (hn : F.nodes.length ≤ 100000000) (hne : F.ne ≤ 100000000) :
    Calls Tryd.prog 64 #[.pointer (some ⟨p, 0, none⟩), .slice (some ⟨g, 0, none⟩) ks.length cap] w fun e w' => e = .returned (.int .i64 (F.branch ks).2) ∧ ∃ nv' K', FoAt base w' p (F.branch ks).1 nv' bl br be K' ∧ Below base w w' ∧ Fr w w' ∧ KNew w K0 K' := by
  have H := Aside0.mk h
  have HO := Aside0.mk ho
  have HB := Aside0.mk (Below.refl base w)
  have RR := Aside0.mk (Fr.refl w)
  have HL := Aside0.mk (And.intro hl (And.intro hnr (And.intro hn hne)))
  have HK := Aside0.mk hk
  have hmx : (100000001 : Nat) ≤ maxLen := by decide
  have hmx2 : (2000000001 : Nat) ≤ maxLen := by decide
  have HM := Aside0.mk (And.intro hmx hmx2)
  clear h ho hl hnr hn hne hk hmx hmx2
  go_enter Tryd.func64, Tryd.ntmps64
  go_wp2_with fail
  go_loopg [5, 14] ks.length (fun g_ s5 s14 wr => ∃ (x : Int) (F1 : Fo) (r1 : Int), s14 = .int .i64 x ∧ s5 = .int .i64 r1 ∧ Aside0 (F.rowTo ks x.toNat = (F1, r1)) ∧ Aside0 (0 ≤ x ∧ (g_ : Int) = ks.length - x) ∧ Aside0 (FoAt base wr p F1 nv bl br be K0) ∧ Aside0 (wr.ownsRow base 3 1 (.slice (some ⟨g, 0, none⟩) ks.length cap) ks.length (nums .i64 ks)) ∧ Aside0 (Below base w wr) ∧ Aside0 (Fr w wr))
  case atStart => exact ⟨0, F, 0, rfl, rfl, ⟨rfl⟩, ⟨by omega, by omega⟩, H, HO, HB, RR⟩
  case round =>
    obtain ⟨x, F1, r1, rfl, rfl, HE, HX, HT, HO, HB, RR⟩ := hrel
    clear H
    have b1_ := (blk_cell HT.out.box 1).trans (show _ = some nv from rfl)
    have b3_ := (blk_cell HT.out.box 3).trans (show _ = some (Value.map (some br)) from rfl)
    have b4_ := (blk_cell HT.out.box 4).trans (show _ = some (Value.map (some be)) from rfl)
    obtain ⟨f1, f2, f3, f4, f5, f6, f7, f8⟩ := hF.rowTo ks x.toNat
    rw [HE.out] at f1 f2 f3 f4 f5 f6 f7 f8
    dsimp only at f1 f2 f3 f4 f5 f6 f7 f8
    have HF := Aside0.mk (And.intro f2 (And.intro f3 (And.intro f4 (And.intro (congrArg List.length f5) (And.intro f7 f8)))))
    have hrw : (Lit.int .i64 r1).wf = true := wf64 f2 (by have := HL.out; have := HX.out; omega)
    clear f1 f2 f3 f4 f5 f6 f7 f8
    by_cases q : x < (ks.length : Int)
    · have p0 : 0 ≤ x := HX.out.1
      have k0_ := (own_at HO.out x p0 q).1
      have w1_ : wrap64 (x + 1) = x + 1 := by have := HL.out; unfold wrap64; omega
      have hkr : 0 ≤ rd ks x ∧ rd ks x ≤ 100000000 := HK.out _ (by
        unfold rd
        rw [List.getD_eq_getElem?_getD, List.getElem?_eq_getElem (show x.toNat < ks.length by omega)]
        exact List.getElem_mem _)
      have hkw : (Lit.int .i64 (rd ks x)).wf = true := wf64 hkr.1 (by omega)
      have hstep : F.rowTo ks (x + 1).toNat = F1.step r1 (rd ks x) := by
        rw [show (x + 1).toNat = x.toNat + 1 by omega]
        show (F.rowTo ks x.toNat).1.step (F.rowTo ks x.toNat).2 (rd ks (x.toNat : Int)) = _
        rw [show ((x.toNat : Nat) : Int) = x by omega, HE.out]
      have HS := Aside0.mk hstep
      clear hkr hstep
      generalize rd ks x = k at *
      have hlen := HT.out.rsm.len (t := 113) Tryd.underlying113 3
      have hlook := HT.out.rsm.look (t := 113) keyP Tryd.underlying113 (pair_key _ _ hrw hkw)
      rcases hr : F1.rs (pk r1 k) with _ | r
      · have HR := Aside0.mk hr
        rw [hr] at hlook
        have w2_ : wrap64 ((F1.nr : Int) + 1) = (F1.nr : Int) + 1 := by have := HL.out; have := HF.out; have := HX.out; unfold wrap64; omega
        have hv : (Lit.int .i64 ((F1.nr : Int) + 1)).wf = true := wf64 (by omega) (by have := HL.out; have := HF.out; have := HX.out; omega)
        have HV := Aside0.mk (HT.out.rsm.put (t := 113) keyP Tryd.underlying113 (by have := HL.out; have := HF.out; have := HX.out; have := HM.out; omega) (pair_key _ _ hrw hkw) (pk_lit _ _) HR.out ((F1.nr : Int) + 1) hv)
        clear hr hv
        go_wp2_with (first
          | (at_mapUpdate; refine wp_put rfl _ _ _ _ rfl rfl rfl (congrArg (Value.int .i64) w2_) HV.out ?_; rintro w1 ⟨hm1, hg1⟩; have H1 := Aside0.mk (HT.out.putr hm1 hg1); have RR1 := Aside0.mk (RR.out.trans (Fr.map HT.out.rsm hg1)); have HO1 := Aside0.mk (own_putm HT.out.rsm HO.out hg1); have HB1 := Aside0.mk (HB.out.grown hg1 (Nat.le_trans hbw HB.out.size) (fun k hk => by cases hk; exact HT.out.gr)); clear hlook hlen b1_ b3_ b4_ k0_ hm1 hg1))
        go_roundg (ks.length - (x + 1).toNat)
        case measure => go_light; have := HX.out; omega
        case rel =>
          go_light
          have e : F.rowTo ks (x + 1).toNat = ({ F1 with rs := upd F1.rs (pk r1 k) ((F1.nr : Int) + 1), nr := F1.nr + 1 }, (F1.nr : Int) + 1) := by
            rw [HS.out]
            unfold Fo.step
            rw [HR.out]
          exact ⟨x + 1, _, _, by simp [w1_], rfl, ⟨e⟩, ⟨by omega, by have := HX.out; omega⟩, H1, HO1, HB1, RR1⟩
      · have HR := Aside0.mk hr
        rw [hr] at hlook
        clear hr
        go_wp2_with fail
        go_roundg (ks.length - (x + 1).toNat)
        case measure => go_light; have := HX.out; omega
        case rel =>
          go_light
          have e : F.rowTo ks (x + 1).toNat = (F1, r) := by
            rw [HS.out]
            unfold Fo.step
            rw [HR.out]
          exact ⟨x + 1, _, _, by simp [w1_], rfl, ⟨e⟩, ⟨by omega, by have := HX.out; omega⟩, HT, HO, HB, RR⟩
    · have hx : x.toNat = ks.length := by have := HX.out; omega
      have HE := Aside0.mk (show F.rowTo ks ks.length = (F1, r1) by rw [← hx]; exact HE.out)
      clear hx
      have hlook := HT.out.enm.look (t := 107) keyI Tryd.underlying107 (keyOf_int_mk Tryd.underlying3 hrw)
      rcases hr : F1.en (.int .i64 r1) with _ | id
      · have HR := Aside0.mk hr
        rw [hr] at hlook
        clear hr
        obtain ⟨A, c, rfl⟩ := own_slice HT.out.row
        have hv : (Lit.int .i64 (F1.nodes.length : Int)).wf = true := wf64 (by omega) (by have := HL.out; have := HF.out; omega)
        have HV := Aside0.mk (HT.out.enm.put (t := 107) keyI Tryd.underlying107 (by have := HL.out; have := HF.out; have := HM.out; omega) (keyOf_int_mk Tryd.underlying3 hrw) trivial HR.out (F1.nodes.length : Int) hv)
        clear hv
        go_upto_region 15 with (first
          | (at_mapUpdate; refine wp_put rfl _ _ _ _ rfl rfl rfl rfl HV.out ?_; rintro w1 ⟨hm1, hg1⟩; have H1 := Aside0.mk (HT.out.pute hm1 hg1); have RR1 := Aside0.mk (RR.out.trans (Fr.map HT.out.enm hg1)); have HO1 := Aside0.mk (own_putm HT.out.enm HO.out hg1); have HB1 := Aside0.mk (HB.out.grown hg1 (Nat.le_trans hbw HB.out.size) (fun k hk => by cases hk; exact HT.out.ge)); clear hlook b1_ b3_ b4_ hm1 hg1))
        --REGION
        refine start_ (n := 13) (S := fun w' => w'.cell? ⟨p, 1, none⟩ = some (.slice A F1.nodes.length c)) (ds := [12]) #[false, false, false, false, false, false, false, false, false, false, false, false, false] (by kernel_rfl) rfl rfl ((blk_cell H1.out.box 1).trans rfl) (fun hHeld => ?_)
        have H2 := Aside0.mk (H1.out.on (below_drew (Below.refl _ _)))
        have HO2 := Aside0.mk (own_move (w1 := w1.drew) HO1.out (fun _ _ => rfl))
        have HB2 := Aside0.mk (below_drew1 HB1.out)
        have RR2 := Aside0.mk (show Fr w w1.drew from RR1.out)
        have HSZ := Aside0.mk (show w.heap.size ≤ w1.drew.heap.size from HB1.out.size)
        generalize w1.drew = wx at H2 HO2 HB2 RR2 HSZ hHeld ⊢
        clear H1 HO1 HB1 HT HO HB
        refine pure_ (i := 0) (N := (some 69)) (v := ?_) (a' := ?_) #[true, false, false, false, false, false, false, false, false, false, false, false, false] rfl rfl (by kernel_rfl) (fun _ _ _ h => h) (Or.inl ⟨by rfl, ?_⟩) ?_ ?_
        rotate_left
        · intro w'
          go_simp
          with_reducible rfl
        rotate_left
        · simp only [Act.put, List.setIfInBounds_toArray, List.set_cons_zero, List.set_cons_succ, i64_w, i32_w]
          rfl
        refine pure_ (i := 1) (N := (some 70)) (v := ?_) (a' := ?_) #[true, true, false, false, false, false, false, false, false, false, false, false, false] rfl rfl (by kernel_rfl) (fun _ _ _ h => h) (Or.inl ⟨by rfl, ?_⟩) ?_ ?_
        rotate_left
        · intro w'
          go_simp
          with_reducible rfl
        rotate_left
        · simp only [Act.put, List.setIfInBounds_toArray, List.set_cons_zero, List.set_cons_succ, i64_w, i32_w]
          rfl
        refine pure_ (i := 2) (N := (some 71)) (v := ?_) (a' := ?_) #[true, true, true, false, false, false, false, false, false, false, false, false, false] rfl rfl (by kernel_rfl) (fun _ _ _ h => h) (Or.inl ⟨by rfl, ?_⟩) ?_ ?_
        rotate_left
        · intro w'
          go_simp
          with_reducible rfl
        rotate_left
        · simp only [Act.put, List.setIfInBounds_toArray, List.set_cons_zero, List.set_cons_succ, i64_w, i32_w]
          rfl
        refine pure_ (i := 3) (N := (some 72)) (v := ?_) (a' := ?_) #[true, true, true, true, false, false, false, false, false, false, false, false, false] rfl rfl (by kernel_rfl) (fun _ _ _ h => h) (Or.inl ⟨by rfl, ?_⟩) ?_ ?_
        rotate_left
        · intro w'
          go_simp
          with_reducible rfl
        rotate_left
        · simp only [Act.put, List.setIfInBounds_toArray, List.set_cons_zero, List.set_cons_succ, i64_w, i32_w]
          rfl
        refine take_ (i := 4) (N := (some 73)) (v := ?_) (a' := ?_) #[true, true, true, true, true, false, false, false, false, false, false, false, false] rfl rfl (by kernel_rfl) (fun _ _ _ h => h) (Or.inl ⟨by rfl, ?_⟩) hHeld ?_ ?_
        rotate_left
        · rintro w' s0
          go_simp
          with_reducible rfl
        rotate_left
        · simp only [Act.put, List.setIfInBounds_toArray, List.set_cons_zero, List.set_cons_succ, i64_w, i32_w]
          rfl
        refine pure_ (i := 5) (N := (some 74)) (v := ?_) (a' := ?_) #[true, true, true, true, true, true, false, false, false, false, false, false, false] rfl rfl (by kernel_rfl) (fun _ _ _ h => h) (Or.inl ⟨by rfl, ?_⟩) ?_ ?_
        rotate_left
        · intro w'
          go_simp
          with_reducible rfl
        rotate_left
        · simp only [Act.put, List.setIfInBounds_toArray, List.set_cons_zero, List.set_cons_succ, i64_w, i32_w]
          rfl
        refine one_ (i := 6) (N := (some 75)) #[true, true, true, true, true, true, true, false, false, false, false, false, false] rfl rfl (by kernel_rfl) (by decide) (fun K hK => ?_)
        refine goes_ Tryd.func86 (by kernel_rfl) rfl #[.slice (some ⟨g, 0, none⟩) ks.length cap] (by rfl) rfl rfl (by (try simp only [List.map_toArray, List.map_cons, List.map_nil]); first | done | rfl) ?_
        with_reducible refine (Clone.ints ⟨g, 0, none⟩ ks.length cap ks wx (own_reads' HO2.out) (by have := HL.out; omega)).mono ?_
        rintro en_ w3 ⟨v, rfl, ho3, hb3, hn3⟩
        obtain ⟨A3, c3, rfl⟩ := own_slice ho3
        refine ⟨_, rfl, ?_⟩
        have H3 := Aside0.mk (H2.out.on hb3)
        have HB3 := Aside0.mk (HB2.out.trans (hb3.mono (Nat.le_trans hbw HB2.out.size)))
        have RR3 := Aside0.mk (RR2.out.trans (Fr.below hb3))
        have HO3 := Aside0.mk ho3
        clear ho3
        refine hK.out _ _ ((blk_cell H3.out.box 1).trans rfl) (fun hHeld => ?_)
        clear hK K
        refine pure_ (i := 7) (N := (some 76)) (v := ?_) (a' := ?_) #[true, true, true, true, true, true, true, true, false, false, false, false, false] rfl rfl (by kernel_rfl) (fun _ _ _ h => h) (Or.inl ⟨by rfl, ?_⟩) ?_ ?_
        rotate_left
        · intro w'
          go_simp
          with_reducible rfl
        rotate_left
        · simp only [Act.put, List.setIfInBounds_toArray, List.set_cons_zero, List.set_cons_succ, i64_w, i32_w]
          rfl
        refine one_ (i := 8) (N := (some 77)) #[true, true, true, true, true, true, true, true, true, false, false, false, false] rfl rfl (by kernel_rfl) (by decide) (fun K hK => ?_)
        refine value_ (w1 := w3.alloc (.cells #[.int .u8 0, .slice A3 ks.length c3] 49)) (v := .slice (some ⟨w3.heap.size, 0, none⟩) 1 1) (by rfl) rfl ?_ ?_
        · go_simp
        refine hK.out _ _ ((blk_cell (H3.out.on ((Below.refl _ _).alloc (Nat.le_refl _) (.cells #[.int .u8 0, .slice A3 ks.length c3] 49))).box 1).trans rfl) (fun hHeld => ?_)
        clear hK K
        refine one_ (i := 9) (N := (some 78)) #[true, true, true, true, true, true, true, true, true, true, false, false, false] rfl rfl (by kernel_rfl) (by decide) (fun K hK => ?_)
        refine step_append_cells (w0 := w) (W := w3) base (by rfl) (.tmp 73) (.tmp 77) 22 49 (.agg #[.int .u8 0, .slice none 0 0]) 2 32 rfl Tryd.underlying22 (by kernel_rfl) rfl (by decide) (by decide) (.slice A F1.nodes.length c) F1.nodes.length (ncells F1.nodes K0 F1.nodes.length) [.int .u8 0, .slice A3 ks.length c3] rfl rfl rfl (by intro u hu; simp at hu; rcases hu with hu | hu; (rw [hu]; rfl); (rw [hu]; rfl)) H3.out.row HB3.out (Nat.le_trans hbw HB3.out.size) (by have := HL.out; have := HF.out; omega) ?_
        intro v1_ w4 ho_ hb_ hg_ hat_
        obtain ⟨A4, c4, rfl⟩ := own_slice ho_
        have H4 := Aside0.mk (H3.out.snoc 0 ks (.slice A3 ks.length c3) _ hg_ ho_ (own_weaken (own_move HO3.out (fun k hk => hg_.block k (own_lt HO3.out k hk) (fun e => by have h1 := own_lt H2.out.row k e.symm; have h2 := own_ge HO3.out k hk; omega))) (Nat.le_trans hbw HB2.out.size)) (fun u hu => by
          obtain ⟨j, hj, rfl⟩ := List.mem_iff_getElem.1 hu
          rcases hq : (K0[j]).ownBlock with _ | q
          · exact .inl rfl
          · right
            intro e
            have h1 := own_lt (H2.out.kid j _ (List.getElem?_eq_getElem hj)) q hq
            have h2 := own_ge HO3.out q e.symm
            omega))
        have HB4 := Aside0.mk hb_
        have RR4 := Aside0.mk (RR3.out.trans (Fr.row H3.out.row hg_))
        have hbx := blk_grown H3.out.box hg_ (fun e => by obtain ⟨cs, hc⟩ := own_typed H3.out.row p e.symm; rw [H3.out.box] at hc; injection hc with hc; injection hc with _ hc; exact absurd hc (by decide))
        clear ho_ hb_ hg_ hat_
        have HX4 := Aside0.mk hbx
        clear hbx
        refine hK.out _ _ ((blk_cell HX4.out 1).trans rfl) (fun hHeld => ?_)
        clear hK K
        refine pure_ (i := 10) (N := (some 79)) (v := ?_) (a' := ?_) #[true, true, true, true, true, true, true, true, true, true, true, false, false] rfl rfl (by kernel_rfl) (fun _ _ _ h => h) (Or.inl ⟨by rfl, ?_⟩) ?_ ?_
        rotate_left
        · intro w'
          go_simp
          with_reducible rfl
        rotate_left
        · simp only [Act.put, List.setIfInBounds_toArray, List.set_cons_zero, List.set_cons_succ, i64_w, i32_w]
          rfl
        refine pure_ (i := 11) (N := (some 80)) (v := ?_) (a' := ?_) #[true, true, true, true, true, true, true, true, true, true, true, true, false] rfl rfl (by kernel_rfl) (fun _ _ _ h => h) (Or.inl ⟨by rfl, ?_⟩) ?_ ?_
        rotate_left
        · intro w'
          go_simp
          with_reducible rfl
        rotate_left
        · simp only [Act.put, List.setIfInBounds_toArray, List.set_cons_zero, List.set_cons_succ, i64_w, i32_w]
          rfl
        refine last_ (i := 12) (N := none) #[true, true, true, true, true, true, true, true, true, true, true, true, true] rfl rfl (by kernel_rfl) (by decide) (fun K hK => ?_)
        have s_ := (blk_cell HX4.out 1)
        have r_ := blk_frozen HX4.out 1
        refine skip_ (w1 := ?_) (by rfl) rfl ?_ ?_
        rotate_left
        · go_simp
          rfl
        clear r_ s_
        refine hK.out _ _ ?_
        clear hK K
        refine done_ (by kernel_rfl) ?_
        go_wp2
        go_ret
        go_light
        have e : F.branch ks = (F1.newBranch r1 ks, (F1.nodes.length : Int)) := by
          unfold Fo.branch
          rw [HE.out]
          show F1.ended r1 ks = _
          unfold Fo.ended
          rw [HR.out]
        rw [e]
        exact ⟨rfl, _, _, H4.out, HB4.out.setCell H4.out.gp _, RR4.out.trans (Fr.set HX4.out), KNew.snoc (fun k hk => Nat.le_trans HSZ.out (own_ge HO3.out k hk))⟩
      · have HR := Aside0.mk hr
        rw [hr] at hlook
        clear hr
        go_wp2_with fail
        go_ret
        go_light
        have e : F.branch ks = (F1, id) := by
          unfold Fo.branch
          rw [HE.out]
          show F1.ended r1 ks = _
          unfold Fo.ended
          rw [HR.out]
        rw [e]
        exact ⟨rfl, _, _, HT.out, HB.out, RR.out, KNew.refl _ _⟩
end Go.Proofs.YtbnonnogkgbpiaaDoor.Forest
end
section
namespace Go.Proofs.YtbnonnogkgbpiaaDoor.Forest
open Go Go.RowKit Go.Maps Go.Proofs.YtbnonnogkgbpiaaDoor.MapI Go.Proofs.YtbnonnogkgbpiaaDoor.TreeKeys Go.Proofs.YtbnonnogkgbpiaaDoorW.PrintWords Go.Proofs.YtbnonnogkgbpiaaDoorW.PrintLast Go.Proofs.YtbnonnogkgbpiaaDoorW.PrintMore
set_option linter.unusedVariables false
set_option linter.unusedSimpArgs false
def Fo.new (st : Int) : Fo := ⟨st, [], fun _ => none, 0, fun _ => none, 0, fun _ => none, 0⟩
set_option maxHeartbeats 4000000 in
set_option maxRecDepth 100000 in
theorem newForest_calls (st : Int) (w : World) :
    Calls Tryd.prog 61 #[.int .i64 st] w fun e w' => ∃ p bl br be, e = .returned (.pointer (some ⟨p, 0, none⟩)) ∧ FoAt w.heap.size w' p (Fo.new st) (.slice none 0 0) bl br be [] ∧ Below w.heap.size w w' := by
  have hmm := @run_makeMap Tryd.prog
  go_enter Tryd.func61, Tryd.ntmps61
  go_wp2
  go_ret
  have hb1 := (Below.refl w.heap.size w).alloc (Nat.le_refl _) (.map #[] 0)
  have hb2 := hb1.alloc hb1.size (.map #[] 0)
  have hb3 := hb2.alloc hb2.size (.map #[] 0)
  have s1 : (w.alloc (.map #[] 0)).heap.size = w.heap.size + 1 := by simp
  have s2 : ((w.alloc (.map #[] 0)).alloc (.map #[] 0)).heap.size = w.heap.size + 2 := by simp
  have s3 : (((w.alloc (.map #[] 0)).alloc (.map #[] 0)).alloc (.map #[] 0)).heap.size = w.heap.size + 3 := by simp
  have m1 := ((((MapI.made w 5).on ((Below.refl _ _).alloc (Nat.le_refl _) (.map #[] 0))).on ((Below.refl _ _).alloc (Nat.le_refl _) (.map #[] 0))).on ((Below.refl _ _).alloc (Nat.le_refl _) (.cells #[.int .i64 st, .slice none 0 0, .map (some w.heap.size), .map (some (w.heap.size + 1)), .map (some (w.heap.size + 2))] 115)))
  have m2 := (((MapI.made (w.alloc (.map #[] 0)) 139).on ((Below.refl _ _).alloc (Nat.le_refl _) (.map #[] 0))).on ((Below.refl _ _).alloc (Nat.le_refl _) (.cells #[.int .i64 st, .slice none 0 0, .map (some w.heap.size), .map (some (w.heap.size + 1)), .map (some (w.heap.size + 2))] 115)))
  have m3 := ((MapI.made ((w.alloc (.map #[] 0)).alloc (.map #[] 0)) 3).on ((Below.refl _ _).alloc (Nat.le_refl _) (.cells #[.int .i64 st, .slice none 0 0, .map (some w.heap.size), .map (some (w.heap.size + 1)), .map (some (w.heap.size + 2))] 115)))
  rw [s1] at m2
  rw [s2] at m3
  refine ⟨_, w.heap.size, w.heap.size + 1, w.heap.size + 2, rfl, ⟨?_, by omega, by omega, by omega, by omega, by omega, by omega, by omega, own_nil _ _ _ _, rfl, fun j v hj => by simp at hj, fun i j u v _ hj => by simp at hj, m1, m2, m3⟩, hb3.alloc hb3.size _⟩
  have h := heap_alloc_new (((w.alloc (.map #[] 0)).alloc (.map #[] 0)).alloc (.map #[] 0)) (.cells #[.int .i64 st, .slice none 0 0, .map (some w.heap.size), .map (some (w.heap.size + 1)), .map (some (w.heap.size + 2))] 115)
  rw [s3] at h
  exact h
end Go.Proofs.YtbnonnogkgbpiaaDoor.Forest
end
section
namespace Go.Proofs.YtbnonnogkgbpiaaDoor.Forest
open Go Go.RowKit Go.Maps Go.Proofs.YtbnonnogkgbpiaaDoor.MapI Go.Proofs.YtbnonnogkgbpiaaDoor.TreeKeys Go.Proofs.YtbnonnogkgbpiaaDoorW.PrintWords Go.Proofs.YtbnonnogkgbpiaaDoorW.PrintLast Go.Proofs.YtbnonnogkgbpiaaDoorW.PrintMore
set_option linter.unusedVariables false
def cost (st : Nat) : Nat → Nat
  | 0 => 1
  | d + 1 => st * cost st d + st + 1
structure Fo.Room (F : Fo) (k : Nat) : Prop where
  a : F.nodes.length + k ≤ 100000000
  b : F.nl + k ≤ 100000000
  c : F.nr + k ≤ 100000000
  d : F.ne + k ≤ 100000000
structure Fo.Ok (F : Fo) : Prop where
  fine : F.Fine
  lv : ∀ kl r, F.lv kl = some r → 0 ≤ r ∧ r < F.nodes.length
  en : ∀ kl r, F.en kl = some r → 0 ≤ r ∧ r < F.nodes.length
theorem Fo.Room.less {F : Fo} {k k' : Nat} (h : F.Room k) (hk : k' ≤ k) : F.Room k' := ⟨by have := h.a; omega, by have := h.b; omega, by have := h.c; omega, by have := h.d; omega⟩
def leafed (st : Nat) (s : Int) (S : Fo × Bool) : (Fo × Bool) × Int := if s ≥ st then ((S.1, true), 0) else (((S.1.leaf s).1, S.2), (S.1.leaf s).2)
def kidsOf (g : List Int → Fo × Bool → (Fo × Bool) × Int) (pre : List Int) (S : Fo × Bool) : Nat → (Fo × Bool) × List Int
  | 0 => (S, [])
  | i + 1 => ((g (pre ++ [(i : Int)]) (kidsOf g pre S i).1).1, (kidsOf g pre S i).2 ++ [(g (pre ++ [(i : Int)]) (kidsOf g pre S i).1).2])
def grow (st : Nat) (f : List Int → Int) : Nat → List Int → Fo × Bool → (Fo × Bool) × Int
  | 0, pre, S => leafed st (f pre) S
  | d + 1, pre, S => ((((kidsOf (grow st f d) pre S st).1.1.branch (kidsOf (grow st f d) pre S st).2).1, (kidsOf (grow st f d) pre S st).1.2), ((kidsOf (grow st f d) pre S st).1.1.branch (kidsOf (grow st f d) pre S st).2).2)
theorem kidsOf_len (g : List Int → Fo × Bool → (Fo × Bool) × Int) (pre : List Int) (S : Fo × Bool) : ∀ i, (kidsOf g pre S i).2.length = i
  | 0 => rfl
  | i + 1 => by
    show (_ ++ [_]).length = _
    rw [List.length_append, kidsOf_len g pre S i]
    rfl
theorem Fo.Ok.leaf {F : Fo} (h : F.Ok) (s : Int) {k : Nat} (hr : F.Room (k + 1)) : (F.leaf s).1.Ok ∧ (F.leaf s).1.Room k ∧ 0 ≤ (F.leaf s).2 ∧ (F.leaf s).2 < (F.leaf s).1.nodes.length ∧ (F.leaf s).1.st = F.st ∧ F.nodes.length ≤ (F.leaf s).1.nodes.length := by
  unfold Fo.leaf
  rcases hf : F.lv (.int .u8 s) with _ | id
  · refine ⟨⟨h.fine, ?_, ?_⟩, ⟨?_, ?_, ?_, ?_⟩, by simp <;> omega, by simp [Fo.newLeaf] <;> omega, rfl, by simp [Fo.newLeaf]⟩
    · intro kl r hk
      show 0 ≤ r ∧ r < ((F.nodes ++ [(s, [])]).length : Int)
      simp only [Fo.newLeaf, upd] at hk
      rw [List.length_append, List.length_singleton]
      split at hk
      · cases hk
        omega
      · have := h.lv kl r hk
        omega
    · intro kl r hk
      show 0 ≤ r ∧ r < ((F.nodes ++ [(s, [])]).length : Int)
      rw [List.length_append, List.length_singleton]
      have := h.en kl r hk
      omega
    · show (F.nodes ++ [(s, [])]).length + k ≤ _
      rw [List.length_append, List.length_singleton]
      have := hr.a
      omega
    · show F.nl + 1 + k ≤ _
      have := hr.b
      omega
    · show F.nr + k ≤ _
      have := hr.c
      omega
    · show F.ne + k ≤ _
      have := hr.d
      omega
  · have := h.lv _ _ hf
    exact ⟨h, hr.less (by omega), this.1, this.2, rfl, Nat.le_refl _⟩
theorem Fo.Ok.branch {F : Fo} (h : F.Ok) (ks : List Int) {k : Nat} (hr : F.Room (k + ks.length + 1)) : (F.branch ks).1.Ok ∧ (F.branch ks).1.Room k ∧ 0 ≤ (F.branch ks).2 ∧ (F.branch ks).2 < (F.branch ks).1.nodes.length ∧ (F.branch ks).1.st = F.st ∧ F.nodes.length ≤ (F.branch ks).1.nodes.length := by
  obtain ⟨f1, f2, f3, f4, f5, f6, f7, f8⟩ := h.fine.rowTo ks ks.length
  have hlv : (F.rowTo ks ks.length).1.lv = F.lv ∧ (F.rowTo ks ks.length).1.nl = F.nl := by
    generalize ks.length = i
    induction i with
    | zero => exact ⟨rfl, rfl⟩
    | succ i ih =>
      show ((F.rowTo ks i).1.step (F.rowTo ks i).2 (rd ks i)).1.lv = _ ∧ ((F.rowTo ks i).1.step (F.rowTo ks i).2 (rd ks i)).1.nl = _
      unfold Fo.step
      split
      · exact ih
      · exact ih
  unfold Fo.branch Fo.ended
  generalize (F.rowTo ks ks.length).1 = G at *
  generalize (F.rowTo ks ks.length).2 = r at *
  have hn : G.nodes.length = F.nodes.length := congrArg List.length f5
  have a1 := hr.a
  have a2 := hr.b
  have a3 := hr.c
  have a4 := hr.d
  rcases hf : G.en (.int .i64 r) with _ | id
  · refine ⟨⟨f1, ?_, ?_⟩, ⟨?_, ?_, ?_, ?_⟩, by simp <;> omega, by simp [Fo.newBranch] <;> omega, f6, by simp [Fo.newBranch] <;> omega⟩
    · intro kl q hk
      show 0 ≤ q ∧ q < ((G.nodes ++ [(0, ks)]).length : Int)
      rw [List.length_append, List.length_singleton]
      have := h.lv kl q (by rw [← hlv.1]; exact hk)
      omega
    · intro kl q hk
      show 0 ≤ q ∧ q < ((G.nodes ++ [(0, ks)]).length : Int)
      rw [List.length_append, List.length_singleton]
      simp only [Fo.newBranch, upd] at hk
      split at hk
      · cases hk
        omega
      · have := h.en kl q (by rw [← f7]; exact hk)
        omega
    · show (G.nodes ++ [(0, ks)]).length + k ≤ _
      rw [List.length_append, List.length_singleton]
      omega
    · show G.nl + k ≤ _
      omega
    · show G.nr + k ≤ _
      omega
    · show G.ne + 1 + k ≤ _
      omega
  · have := h.en _ _ (by rw [← f7]; exact hf)
    dsimp only
    refine ⟨⟨f1, ?_, ?_⟩, ⟨by omega, by omega, by omega, by omega⟩, this.1, by rw [hn]; exact this.2, f6, by omega⟩
    · intro kl q hk
      have := h.lv kl q (by rw [← hlv.1]; exact hk)
      omega
    · intro kl q hk
      have := h.en kl q (by rw [← f7]; exact hk)
      omega
def GrowFits (st : Nat) (g : List Int → Fo × Bool → (Fo × Bool) × Int) (c : Nat) : Prop := ∀ pre S k, S.1.Ok → S.1.Room (c + k) → (g pre S).1.1.Ok ∧ (g pre S).1.1.Room k ∧ 0 ≤ (g pre S).2 ∧ (g pre S).2 ≤ 100000000 ∧ (g pre S).1.1.st = S.1.st
theorem kids_fit {st : Nat} {g : List Int → Fo × Bool → (Fo × Bool) × Int} {c : Nat} (hg : GrowFits st g c) (pre : List Int) (S : Fo × Bool) (h : S.1.Ok) : ∀ (i k : Nat), S.1.Room (i * c + k) → (kidsOf g pre S i).1.1.Ok ∧ (kidsOf g pre S i).1.1.Room k ∧ (∀ v ∈ (kidsOf g pre S i).2, 0 ≤ v ∧ v ≤ 100000000) ∧ (kidsOf g pre S i).1.1.st = S.1.st
  | 0, k, hr => ⟨h, hr.less (by omega), (fun v hv => by cases hv), rfl⟩
  | i + 1, k, hr => by
    obtain ⟨h1, h2, h3, h4⟩ := kids_fit hg pre S h i (c + k) (hr.less (by rw [Nat.add_mul]; omega))
    obtain ⟨g1, g2, g3, g4, g5⟩ := hg (pre ++ [(i : Int)]) (kidsOf g pre S i).1 k h1 h2
    refine ⟨g1, g2, ?_, g5.trans h4⟩
    intro v hv
    rcases List.mem_append.1 hv with hv | hv
    · exact h3 v hv
    · rw [List.mem_singleton.1 hv]
      exact ⟨g3, g4⟩
theorem grow_fit (st : Nat) (f : List Int → Int) : ∀ d, GrowFits st (grow st f d) (cost st d)
  | 0 => by
    intro pre S k h hr
    show (leafed st (f pre) S).1.1.Ok ∧ _
    show (leafed st (f pre) S).1.1.Ok ∧ (leafed st (f pre) S).1.1.Room k ∧ 0 ≤ (leafed st (f pre) S).2 ∧ (leafed st (f pre) S).2 ≤ _ ∧ (leafed st (f pre) S).1.1.st = _
    unfold leafed
    split
    · exact ⟨h, hr.less (by omega), Int.le_refl _, by show (0 : Int) ≤ _; omega, rfl⟩
    · obtain ⟨h1, h2, h3, h4, h5, h6⟩ := h.leaf (f pre) (k := k) (hr.less (by simp only [cost]; omega))
      exact ⟨h1, h2, h3, by have := h2.a; show (S.1.leaf (f pre)).2 ≤ _; omega, h5⟩
  | d + 1 => by
    intro pre S k h hr
    have hl := kidsOf_len (grow st f d) pre S st
    obtain ⟨h1, h2, h3, h4⟩ := kids_fit (grow_fit st f d) pre S h st (k + (kidsOf (grow st f d) pre S st).2.length + 1) (hr.less (by simp only [cost]; omega))
    obtain ⟨g1, g2, g3, g4, g5, g6⟩ := h1.branch _ h2
    exact ⟨g1, g2, g3, by have := g2.a; show ((kidsOf (grow st f d) pre S st).1.1.branch (kidsOf (grow st f d) pre S st).2).2 ≤ _; omega, g5.trans h4⟩
end Go.Proofs.YtbnonnogkgbpiaaDoor.Forest
end
section
namespace Go.Proofs.YtbnonnogkgbpiaaDoor.Forest
open Go Go.RowKit Go.Maps Go.Proofs.YtbnonnogkgbpiaaDoor.MapI Go.Proofs.YtbnonnogkgbpiaaDoor.TreeKeys Go.Proofs.YtbnonnogkgbpiaaDoorW.PrintWords Go.Proofs.YtbnonnogkgbpiaaDoorW.PrintLast Go.Proofs.YtbnonnogkgbpiaaDoorW.PrintMore
set_option linter.unusedVariables false
set_option linter.unusedSimpArgs false
structure Cx where
  n : Nat
  st : Nat
  kf : Nat
  fi : Array Value
  caps : Array Value
  bi : Nat
  bf : Nat
  bn : Nat
  bs : Nat
  bb : Nat
  bm : Nat
  bg : Nat
  gin : Nat
  cin : Nat
  p : Nat
  bl : Nat
  br : Nat
  be : Nat
def Cx.args (x : Cx) (l : Int) : Array Value := #[.int .i64 l, .pointer (some ⟨x.bi, 0, none⟩), .pointer (some ⟨x.bf, 0, none⟩), .pointer (some ⟨x.bn, 0, none⟩), .pointer (some ⟨x.bs, 0, none⟩), .pointer (some ⟨x.bb, 0, none⟩), .pointer (some ⟨x.bm, 0, none⟩), .pointer (some ⟨x.bg, 0, none⟩)]
structure CapAt (B : Nat) (W : World) (x : Cx) (F : Fo) (bad : Bool) (row : List Int) (nv : Value) (K : List Value) : Prop where
  xi : W.heap[x.bi]? = some (.cells #[.int .i64 (x.n : Int)] 3 (0, 0))
  xf : W.heap[x.bf]? = some (.cells #[.func (.func x.kf) x.fi x.caps] 45 (0, 0))
  xn : W.heap[x.bn]? = some (.cells #[.slice (some ⟨x.gin, 0, none⟩) x.n x.cin] 33 (0, 0))
  xs : W.heap[x.bs]? = some (.cells #[.int .i64 (x.st : Int)] 3 (0, 0))
  xb : W.heap[x.bb]? = some (.cells #[.bool bad] 4 (0, 0))
  xm : W.heap[x.bm]? = some (.cells #[.pointer (some ⟨x.p, 0, none⟩)] 105 (0, 0))
  xg : W.heap[x.bg]? = some (.cells #[.func (.func 71) #[] #[.pointer (some ⟨x.bi, 0, none⟩), .pointer (some ⟨x.bf, 0, none⟩), .pointer (some ⟨x.bn, 0, none⟩), .pointer (some ⟨x.bs, 0, none⟩), .pointer (some ⟨x.bb, 0, none⟩), .pointer (some ⟨x.bm, 0, none⟩), .pointer (some ⟨x.bg, 0, none⟩)]] 108 (0, 0))
  inr : W.ownsRow B 5 1 (.slice (some ⟨x.gin, 0, none⟩) x.n x.cin) x.n (nums .u8 row)
  fo : FoAt B W x.p F nv x.bl x.br x.be K
  gb : B ≤ x.bb
def Fr2 (w w' : World) : Prop := ∀ (k : Nat) (cs : Array Value) (t : TypeId) (f : Nat × Nat), w.heap[k]? = some (Obj.cells cs t f) → t ≠ 115 → t ≠ 49 → t ≠ 4 → t ≠ 5 → w'.heap[k]? = w.heap[k]?
theorem Fr2.refl (w : World) : Fr2 w w := by
  intro _ _ _ _ _ _ _ _ _
  rfl
theorem Fr2.trans {w w1 w2 : World} (h : Fr2 w w1) (g : Fr2 w1 w2) : Fr2 w w2 := by
  intro k cs t f hk a b c d
  exact (g k cs t f ((h k cs t f hk a b c d).trans hk) a b c d).trans (h k cs t f hk a b c d)
theorem Fr2.of {w w' : World} (h : Fr w w') : Fr2 w w' := by
  intro k cs t f hk a b _ _
  exact h k cs t f hk a b
theorem Fr2.set {w : World} {p j : Nat} {v : Value} {cs : Array Value} {t : TypeId} {f : Nat × Nat} (h : w.heap[p]? = some (.cells cs t f)) (ht : t = 4 ∨ t = 5) : Fr2 w (w.setCell ⟨p, j, none⟩ v) := by
  intro q cs' t' f' hk _ _ a b
  exact Below.heap_setCell _ ⟨p, j, none⟩ _ _ (fun e => by
    rw [show q = p from e, h] at hk
    injection hk with hk
    injection hk with _ hk
    subst hk
    rcases ht with h0 | h0
    · exact a h0
    · exact b h0)
section
variable {B : Nat} {W W' : World} {x : Cx} {F : Fo} {bad : Bool} {row : List Int} {nv : Value} {K : List Value}
theorem CapAt.frame (h : CapAt B W x F bad row nv K) (hr : Fr W W') {F' : Fo} {nv' : Value} {K' : List Value} (hf : FoAt B W' x.p F' nv' x.bl x.br x.be K') : CapAt B W' x F' bad row nv' K' :=
  ⟨(hr _ _ _ _ h.xi (by decide) (by decide)).trans h.xi, (hr _ _ _ _ h.xf (by decide) (by decide)).trans h.xf, (hr _ _ _ _ h.xn (by decide) (by decide)).trans h.xn, (hr _ _ _ _ h.xs (by decide) (by decide)).trans h.xs, (hr _ _ _ _ h.xb (by decide) (by decide)).trans h.xb, (hr _ _ _ _ h.xm (by decide) (by decide)).trans h.xm, (hr _ _ _ _ h.xg (by decide) (by decide)).trans h.xg,
    own_move h.inr (fun k hk => by obtain ⟨cs, hc⟩ := own_typed h.inr k hk; exact hr k _ _ _ hc (by decide) (by decide)), hf, h.gb⟩
theorem CapAt.on (h : CapAt B W x F bad row nv K) (hb : Below W.heap.size W W') : CapAt B W' x F bad row nv K := h.frame (Fr.below hb) (h.fo.on hb)
theorem FoAt.set {p bl br be : Nat} (h : FoAt B W p F nv bl br be K) {q j : Nat} {v : Value} {cs : Array Value} {t : TypeId} {f : Nat × Nat} (hq : W.heap[q]? = some (.cells cs t f)) (h1 : t ≠ 115) (h2 : t ≠ 49) (h3 : t ≠ 3) : FoAt B (W.setCell ⟨q, j, none⟩ v) p F nv bl br be K := by
  have far : ∀ k, k ≠ q → (W.setCell ⟨q, j, none⟩ v).heap[k]? = W.heap[k]? := fun k hk => Below.heap_setCell _ ⟨q, j, none⟩ _ _ hk
  have ty : ∀ (k : Nat) (cs' : Array Value) (t' : TypeId) (f' : Nat × Nat), W.heap[k]? = some (.cells cs' t' f') → t ≠ t' → k ≠ q := by
    rintro k cs' t' f' hk hne rfl
    rw [hq] at hk
    injection hk with hk
    injection hk with _ hk
    exact hne hk
  have mp : ∀ {k : TypeId} {b s : Nat} {g : Lit → Option Int}, MapI W k b s g → b ≠ q := by
    rintro k b s g hm rfl
    obtain ⟨es, c, hb⟩ := hm.obj
    rw [hq] at hb
    cases hb
  exact h.move (far _ (ty _ _ _ _ h.box h1)) (fun k hk => by obtain ⟨cs', hc⟩ := own_typed h.row k hk; exact far k (ty _ _ _ _ hc h2)) (fun u hu k hk => by
    obtain ⟨i, hi, rfl⟩ := List.mem_iff_getElem.1 hu
    obtain ⟨cs', hc⟩ := own_typed (h.kid i _ (List.getElem?_eq_getElem hi)) k hk
    exact far k (ty _ _ _ _ hc h3)) (far _ (mp h.lvm)) (far _ (mp h.rsm)) (far _ (mp h.enm))
theorem CapAt.setBad (h : CapAt B W x F bad row nv K) (v : Bool) : CapAt B (W.setCell ⟨x.bb, 0, none⟩ (.bool v)) x F v row nv K := by
  have far : ∀ (k : Nat) (cs' : Array Value) (t' : TypeId) (f' : Nat × Nat), W.heap[k]? = some (.cells cs' t' f') → 4 ≠ t' → (W.setCell ⟨x.bb, 0, none⟩ (.bool v)).heap[k]? = W.heap[k]? := by
    intro k cs' t' f' hk hne
    exact Below.heap_setCell _ ⟨x.bb, 0, none⟩ _ _ (fun e => by
      rw [show k = x.bb from e, h.xb] at hk
      injection hk with hk
      injection hk with _ hk
      exact hne hk)
  exact ⟨(far _ _ _ _ h.xi (by decide)).trans h.xi, (far _ _ _ _ h.xf (by decide)).trans h.xf, (far _ _ _ _ h.xn (by decide)).trans h.xn, (far _ _ _ _ h.xs (by decide)).trans h.xs, blk_put h.xb 0 _ rfl, (far _ _ _ _ h.xm (by decide)).trans h.xm, (far _ _ _ _ h.xg (by decide)).trans h.xg,
    own_move h.inr (fun k hk => by obtain ⟨cs, hc⟩ := own_typed h.inr k hk; exact far k _ _ _ hc (by decide)), h.fo.set h.xb (by decide) (by decide) (by decide), h.gb⟩
theorem CapAt.setIn (h : CapAt B W x F bad row nv K) (l : Nat) (hl : l < x.n) (s : Int) : CapAt B (W.setCell ⟨x.gin, l, none⟩ (.int .u8 s)) x F bad (row.set l s) nv K ∧ Fr2 W (W.setCell ⟨x.gin, l, none⟩ (.int .u8 s)) := by
  obtain ⟨cs, hc⟩ := own_typed h.inr x.gin rfl
  have far : ∀ (k : Nat) (cs' : Array Value) (t' : TypeId) (f' : Nat × Nat), W.heap[k]? = some (.cells cs' t' f') → 5 ≠ t' → (W.setCell ⟨x.gin, l, none⟩ (.int .u8 s)).heap[k]? = W.heap[k]? := by
    intro k cs' t' f' hk hne
    exact Below.heap_setCell _ ⟨x.gin, l, none⟩ _ _ (fun e => by
      rw [show k = x.gin from e, hc] at hk
      injection hk with hk
      injection hk with _ hk
      exact hne hk)
  have ho := (own_store h.inr (l : Int) s).1
  exact ⟨⟨(far _ _ _ _ h.xi (by decide)).trans h.xi, (far _ _ _ _ h.xf (by decide)).trans h.xf, (far _ _ _ _ h.xn (by decide)).trans h.xn, (far _ _ _ _ h.xs (by decide)).trans h.xs, (far _ _ _ _ h.xb (by decide)).trans h.xb, (far _ _ _ _ h.xm (by decide)).trans h.xm, (far _ _ _ _ h.xg (by decide)).trans h.xg,
    ho, h.fo.set hc (by decide) (by decide) (by decide), h.gb⟩, Fr2.set hc (.inr rfl)⟩
end
theorem goesv_ {P : Program} {ops : Array Oper} {Q : Exit → Act → World → Prop} {oi : Oper} {N : Option Tmp} {a : Act} {w : World} {K : Act → World → Prop} {f : FuncId} {fn : Func} {xo xa : Operand} {ts : Array TypeId} {fi caps : Array Value} (hf : P.funcs[f]? = some fn) (hname : (fn.name == "runtime.NumGoroutine") = false) (hb : fn.body.isSome = true) (arg : Value)
    (hw : Region.wanted oi (yielded ops a.tmps) = true) (hN : oi.dst = N) (hop : oi.op = .call { callee := .value xo, args := #[xa], argTypes := ts }) (hx : a.eval xo = .func (.func f) fi caps) (hargs : a.eval xa = arg)
    (h : Calls P f (fi ++ #[arg] ++ caps) w fun e w' => ∃ v, e = .returned v ∧ K (a.put N v) w') : if Region.wanted oi (yielded ops a.tmps) = true then Oper.wp P oi a w K Q else K (a.put N undef) w := by
  refine call_ f (fi ++ #[arg] ++ caps) hw hN ?_ h
  have he := enters_ hf hname hb (fi ++ #[arg] ++ caps) w
  unfold execOp
  simp [hop, resolve, Deferred.ofValue, invoke, hx, hargs] at he ⊢
  simp [he]
structure FOk (x : Cx) (w0 : World) (f : List Int → Int) : Prop where
  fn : ∃ g, Tryd.prog.funcs[x.kf]? = some g ∧ (g.name == "runtime.NumGoroutine") = false ∧ g.body.isSome = true
  r : ∀ pre, 0 ≤ f pre ∧ f pre ≤ 255
  calls : ∀ (pre : List Int) (ad : Addr) (c : Nat) (w : World), pre.length = x.n → (∀ v ∈ pre, 0 ≤ v ∧ v < x.st) → ReadsInt w .u8 (some ad) x.n pre → x.n ≤ c → Below w0.heap.size w0 w →
    Calls Tryd.prog x.kf (x.fi ++ #[.slice (some ad) x.n c] ++ x.caps) w fun e w' => e = .returned (.int .u8 (f pre)) ∧ Below w.heap.size w w'
def GrowOk (x : Cx) (w0 : World) (f : List Int → Int) (d : Nat) : Prop := ∀ (pre row : List Int) (F : Fo) (bad : Bool) (nv : Value) (K : List Value) (w : World), pre.length + d = x.n → row.length = x.n → row.take pre.length = pre → (∀ v ∈ pre, 0 ≤ v ∧ v < x.st) → F.Ok → F.Room (cost x.st d) → CapAt w0.heap.size w x F bad row nv K → Below w0.heap.size w0 w →
  Calls Tryd.prog 71 (x.args pre.length) w fun e w' => e = .returned (.int .i64 (grow x.st f d pre (F, bad)).2) ∧ ∃ row' nv' K', row'.length = x.n ∧ row'.take pre.length = pre ∧ CapAt w0.heap.size w' x (grow x.st f d pre (F, bad)).1.1 (grow x.st f d pre (F, bad)).1.2 row' nv' K' ∧ Below w0.heap.size w0 w' ∧ Fr2 w w' ∧ KNew w K K' ∧ w.heap.size ≤ w'.heap.size
set_option maxHeartbeats 4000000 in
set_option maxRecDepth 100000 in
theorem grow_zero (x : Cx) (w0 : World) (f : List Int → Int) (hf : FOk x w0 f) (hn : x.n ≤ 16) : GrowOk x w0 f 0 := by
  intro pre row F bad nv K0 w hpre hrow htake hin hok hroom h hB
  have e : row = pre := by
    rw [List.take_of_length_le (by omega)] at htake
    exact htake
  subst e
  have H := Aside0.mk h
  have HB := Aside0.mk hB
  rw [show grow x.st f 0 row (F, bad) = leafed x.st (f row) (F, bad) from rfl]
  have hs := hf.r row
  have hfc := fun ad c w' hr hc hb => hf.calls row ad c w' hrow hin hr hc hb
  generalize f row = s at hs hfc ⊢
  have HF := Aside0.mk (And.intro hf.fn hfc)
  have HN := Aside0.mk hn
  have HP := Aside0.mk (And.intro hrow hin)
  have HR := Aside0.mk hroom
  have HOK := Aside0.mk hok
  have hl : (row.length : Int) = (x.n : Int) := by omega
  have i_ := (blk_cell h.xi 0).trans (show _ = some (Value.int .i64 (x.n : Int)) from rfl)
  unfold Cx.args
  rw [hl]
  clear hpre htake hin hok hroom h hB hf hn hrow hfc
  go_enter Tryd.func71, Tryd.ntmps71
  go_upto_region 2 with fail
  clear i_
  refine start_ (n := 5) (S := fun w' => w'.cell? ⟨x.bf, 0, none⟩ = some (.func (.func x.kf) x.fi x.caps) ∧ w'.cell? ⟨x.bn, 0, none⟩ = some (.slice (some ⟨x.gin, 0, none⟩) x.n x.cin)) (ds := []) #[false, false, false, false, false] (by kernel_rfl) rfl rfl ⟨(blk_cell H.out.xf 0).trans rfl, (blk_cell H.out.xn 0).trans rfl⟩ (fun hHeld => ?_)
  have H2 := Aside0.mk (H.out.on (below_drew (Below.refl _ _)))
  have HB2 := Aside0.mk (below_drew1 HB.out)
  have R2 := Aside0.mk (show Fr2 w w.drew from Fr2.refl w)
  have HZ := Aside0.mk (show w.heap.size ≤ w.drew.heap.size from Nat.le_refl _)
  generalize w.drew = wx at H2 HB2 R2 HZ hHeld ⊢
  clear H HB
  refine take_ (i := 0) (N := (some 16)) (v := ?_) (a' := ?_) #[true, false, false, false, false] rfl rfl (by kernel_rfl) (fun _ _ _ h => h) (Or.inl ⟨by rfl, ?_⟩) hHeld ?_ ?_
  rotate_left
  · rintro w' ⟨s0, s1⟩
    go_simp
    with_reducible rfl
  rotate_left
  · simp only [Act.put, List.setIfInBounds_toArray, List.set_cons_zero, List.set_cons_succ, i64_w, i32_w]
    rfl
  refine take_ (i := 1) (N := (some 17)) (v := ?_) (a' := ?_) #[true, true, false, false, false] rfl rfl (by kernel_rfl) (fun _ _ _ h => h) (Or.inl ⟨by rfl, ?_⟩) hHeld ?_ ?_
  rotate_left
  · rintro w' ⟨s0, s1⟩
    go_simp
    with_reducible rfl
  rotate_left
  · simp only [Act.put, List.setIfInBounds_toArray, List.set_cons_zero, List.set_cons_succ, i64_w, i32_w]
    rfl
  refine one_ (i := 2) (N := (some 18)) #[true, true, true, false, false] rfl rfl (by kernel_rfl) (by decide) (fun K hK => ?_)
  refine goes_ Tryd.func72 (by kernel_rfl) rfl #[.slice (some ⟨x.gin, 0, none⟩) x.n x.cin] (by rfl) rfl rfl (by (try simp only [List.map_toArray, List.map_cons, List.map_nil]); first | done | rfl) ?_
  with_reducible refine (Clone.bytes ⟨x.gin, 0, none⟩ x.n x.cin row wx (own_reads' H2.out.inr) (by have := HN.out; omega)).mono ?_
  rintro en_ w3 ⟨v, rfl, ho3, hb3, hn3⟩
  obtain ⟨A3, c3, rfl⟩ := own_slice ho3
  refine ⟨_, rfl, ?_⟩
  have H3 := Aside0.mk (H2.out.on hb3)
  have HB3 := Aside0.mk (HB2.out.trans (hb3.mono HB2.out.size))
  have HZ := Aside0.mk (Nat.le_trans HZ.out hb3.size)
  have R3 := Aside0.mk (R2.out.trans (Fr2.of (Fr.below hb3)))
  obtain ⟨A3, rfl, hc3⟩ : ∃ q, A3 = some q ∧ x.n ≤ c3 := by
    rcases ho3.2 with ⟨h, _⟩ | ⟨q, cp, cur, h, _, _, h2, _⟩
    · exact absurd h hn3
    · cases h
      exact ⟨_, rfl, h2⟩
  have HO3 := Aside0.mk (own_reads' ho3)
  have HC3 := Aside0.mk hc3
  clear ho3 hb3 hn3 hc3
  refine hK.out _ _ ⟨(blk_cell H3.out.xf 0).trans rfl, (blk_cell H3.out.xn 0).trans rfl⟩ (fun hHeld => ?_)
  clear hK K
  refine one_ (i := 3) (N := (some 19)) #[true, true, true, true, false] rfl rfl (by kernel_rfl) (by decide) (fun K hK => ?_)
  obtain ⟨g, g1, g2, g3⟩ := HF.out.1
  refine goesv_ g1 g2 g3 (.slice (some A3) x.n c3) (by rfl) rfl rfl rfl rfl ?_
  with_reducible refine (HF.out.2 A3 c3 w3 HO3.out HC3.out HB3.out).mono ?_
  rintro en_ w4 ⟨rfl, hb4⟩
  refine ⟨_, rfl, ?_⟩
  have H4 := Aside0.mk (H3.out.on hb4)
  have HB4 := Aside0.mk (HB3.out.trans (hb4.mono HB3.out.size))
  have HZ := Aside0.mk (Nat.le_trans HZ.out hb4.size)
  have R4 := Aside0.mk (R3.out.trans (Fr2.of (Fr.below hb4)))
  clear hb4 g1 g2 g3
  refine hK.out _ _ ⟨(blk_cell H4.out.xf 0).trans rfl, (blk_cell H4.out.xn 0).trans rfl⟩ (fun hHeld => ?_)
  clear hK K H2 H3 HB2 HB3 R2 R3
  refine pure_ (i := 4) (N := (some 10)) (v := ?_) (a' := ?_) #[true, true, true, true, true] rfl rfl (by kernel_rfl) (fun _ _ _ h => h) (Or.inl ⟨by rfl, ?_⟩) ?_ ?_
  rotate_left
  · intro w'
    go_simp
    with_reducible rfl
  rotate_left
  · simp only [Act.put, List.setIfInBounds_toArray, List.set_cons_zero, List.set_cons_succ, i64_w, i32_w]
    rfl
  refine done_ (by kernel_rfl) ?_
  have s_ := (blk_cell H4.out.xs 0).trans (show _ = some (Value.int .i64 (x.st : Int)) from rfl)
  have m_ := (blk_cell H4.out.xm 0).trans (show _ = some (Value.pointer (some ⟨x.p, 0, none⟩)) from rfl)
  have f_ := blk_frozen H4.out.xb 0
  have b_ := (blk_cell H4.out.xb 0).trans (show _ = some (Value.bool bad) from rfl)
  have hsw : wrap64 s = s := by unfold wrap64; omega
  have hs8 : (Lit.int .u8 s).wf = true := by
    simp [Lit.wf, IntKind.min, IntKind.max, IntKind.bits, IntKind.signed]
    omega
  have HL := Aside0.mk (Nat.le_of_lt (Nat.lt_of_lt_of_le (by have := HN.out; omega : row.length < 17) (Nat.le_refl 17)))
  by_cases q : s ≥ (x.st : Int)
  · go_wp2_with fail
    go_ret
    go_light
    unfold leafed
    rw [if_pos q]
    exact ⟨rfl, row, nv, K0, HP.out.1, by rw [List.take_length], H4.out.setBad true, HB4.out.setCell H4.out.gb _, R4.out.trans (Fr2.set H4.out.xb (.inl rfl)), KNew.refl _ _, by simpa using HZ.out⟩
  · go_wp2_with (first | (go_at_call 63; (with_reducible refine (leaf_calls w0.heap.size x.p F nv x.bl x.br x.be K0 s w4 H4.out.fo HB4.out.size hs8 (by have := HR.out.a; omega) (by have := HR.out.b; omega)).mono ?_); rintro e_ w5 ⟨rfl, nv5, K5, hf5, hb5, hr5, hk5⟩; have HSZ := Aside0.mk (And.intro (KNew.trans (KNew.refl w K0) hk5 HZ.out) (Nat.le_trans HZ.out hb5.size)); have H5 := Aside0.mk (H4.out.frame hr5 hf5); have HB5 := Aside0.mk (HB4.out.trans hb5); have R5 := Aside0.mk (R4.out.trans (Fr2.of hr5)); clear s_ m_ f_ b_ hf5 hb5 hr5 hk5))
    go_ret
    go_light
    unfold leafed
    rw [if_neg (by omega)]
    exact ⟨rfl, row, nv5, K5, HP.out.1, by rw [List.take_length], H5.out, HB5.out, R5.out, HSZ.out.1, HSZ.out.2⟩
theorem KNew.off {w : World} {K K' : List Value} {g : Nat} (h : KNew w K K') (hg : g < w.heap.size) (ho : ∀ v ∈ K, v.ownBlock ≠ some g) : ∀ v ∈ K', v.ownBlock ≠ some g := by
  intro v hv e
  rcases h v hv with h1 | h1
  · exact ho v h1 e
  · have := h1 g e
    omega
theorem CapAt.setKids {B : Nat} {W : World} {x : Cx} {F : Fo} {bad : Bool} {row : List Int} {nv : Value} {K : List Value} (h : CapAt B W x F bad row nv K) {g j : Nat} {cs : Array Value} (hg : W.heap[g]? = some (.cells cs 3 (0, 0))) (h1 : x.bi ≠ g) (h2 : x.bs ≠ g) (h3 : ∀ v ∈ K, v.ownBlock ≠ some g) (v : Value) : CapAt B (W.setCell ⟨g, j, none⟩ v) x F bad row nv K := by
  have far : ∀ k, k ≠ g → (W.setCell ⟨g, j, none⟩ v).heap[k]? = W.heap[k]? := fun k hk => Below.heap_setCell _ ⟨g, j, none⟩ _ _ hk
  have ty : ∀ (k : Nat) (cs' : Array Value) (t' : TypeId) (f' : Nat × Nat), W.heap[k]? = some (.cells cs' t' f') → 3 ≠ t' → k ≠ g := by
    rintro k cs' t' f' hk hne rfl
    rw [hg] at hk
    injection hk with hk
    injection hk with _ hk
    exact hne hk
  have mp : ∀ {k : TypeId} {b s : Nat} {q : Lit → Option Int}, MapI W k b s q → b ≠ g := by
    rintro k b s q hm rfl
    obtain ⟨es, c, hb⟩ := hm.obj
    rw [hg] at hb
    cases hb
  exact ⟨(far _ h1).trans h.xi, (far _ (ty _ _ _ _ h.xf (by decide))).trans h.xf, (far _ (ty _ _ _ _ h.xn (by decide))).trans h.xn, (far _ h2).trans h.xs, (far _ (ty _ _ _ _ h.xb (by decide))).trans h.xb, (far _ (ty _ _ _ _ h.xm (by decide))).trans h.xm, (far _ (ty _ _ _ _ h.xg (by decide))).trans h.xg,
    own_move h.inr (fun k hk => by obtain ⟨cs', hc⟩ := own_typed h.inr k hk; exact far k (ty _ _ _ _ hc (by decide))),
    h.fo.move (far _ (ty _ _ _ _ h.fo.box (by decide))) (fun k hk => by obtain ⟨cs', hc⟩ := own_typed h.fo.row k hk; exact far k (ty _ _ _ _ hc (by decide))) (fun u hu k hk => far k (fun e => h3 u hu (by rw [hk, e]))) (far _ (mp h.fo.lvm)) (far _ (mp h.fo.rsm)) (far _ (mp h.fo.enm)), h.gb⟩
theorem Fr2.setNew {w W : World} {g : Nat} (h : Fr2 w W) (hg : w.heap.size ≤ g) (j : Nat) (v : Value) : Fr2 w (W.setCell ⟨g, j, none⟩ v) := by
  intro k cs t f hk a b c d
  exact (Below.heap_setCell _ ⟨g, j, none⟩ _ _ (fun e => by have := blk_lt hk; have e2 : k = g := e; omega)).trans (h k cs t f hk a b c d)
def kidRow (ks : List Int) (m : Nat) : List Int := ks ++ List.replicate (m - ks.length) 0
theorem kidRow_set (ks : List Int) (m : Nat) (h : ks.length < m) (v : Int) : (kidRow ks m).set ks.length v = kidRow (ks ++ [v]) m := by
  unfold kidRow
  rw [List.set_append_right _ _ (Nat.le_refl _), Nat.sub_self, List.length_append, List.length_singleton]
  obtain ⟨q, hq⟩ : ∃ q, m - ks.length = q + 1 := ⟨m - ks.length - 1, by omega⟩
  rw [hq, show m - (ks.length + 1) = q by omega, List.replicate_succ, List.set_cons_zero, List.append_assoc]
  rfl
theorem take_set (row pre : List Int) (s : Int) (hp : row.take pre.length = pre) (hl : pre.length < row.length) : (row.set pre.length s).take (pre ++ [s]).length = pre ++ [s] := by
  rw [List.length_append, List.length_singleton]
  apply List.ext_getElem?
  intro i
  rcases Nat.lt_trichotomy i pre.length with h | h | h
  · rw [List.getElem?_take_of_lt (by omega), List.getElem?_set_ne (by omega), List.getElem?_append_left h, ← List.getElem?_take_of_lt h, hp]
  · subst h
    rw [List.getElem?_take_of_lt (by omega), List.getElem?_set_self hl, List.getElem?_append_right (Nat.le_refl _), Nat.sub_self]
    rfl
  · rw [List.getElem?_eq_none (by simp; omega), List.getElem?_eq_none (by simp; omega)]
theorem take_less (row pre : List Int) (s : Int) (hp : row.take (pre ++ [s]).length = pre ++ [s]) : row.take pre.length = pre := by
  have h := congrArg (List.take pre.length) hp
  rw [List.take_take, List.take_left] at h
  rwa [Nat.min_eq_left (by simp)] at h
set_option maxHeartbeats 4000000 in
set_option maxRecDepth 100000 in
theorem grow_succ (x : Cx) (w0 : World) (f : List Int → Int) (hf : FOk x w0 f) (hn : x.n ≤ 16) (hst : 1 ≤ x.st ∧ x.st ≤ 256) (d : Nat) (ih : GrowOk x w0 f d) : GrowOk x w0 f (d + 1) := by
  intro pre row F bad nv K0 w hpre hrow htake hin hok hroom h hB
  have hgr : grow x.st f (d + 1) pre (F, bad) = ((((kidsOf (grow x.st f d) pre (F, bad) x.st).1.1.branch (kidsOf (grow x.st f d) pre (F, bad) x.st).2).1, (kidsOf (grow x.st f d) pre (F, bad) x.st).1.2), ((kidsOf (grow x.st f d) pre (F, bad) x.st).1.1.branch (kidsOf (grow x.st f d) pre (F, bad) x.st).2).2) := rfl
  rw [hgr]
  have hfit := fun i k => kids_fit (grow_fit x.st f d) pre (F, bad) hok i k
  have hlen := kidsOf_len (grow x.st f d) pre (F, bad)
  have hnext : ∀ i, kidsOf (grow x.st f d) pre (F, bad) (i + 1) = ((grow x.st f d (pre ++ [(i : Int)]) (kidsOf (grow x.st f d) pre (F, bad) i).1).1, (kidsOf (grow x.st f d) pre (F, bad) i).2 ++ [(grow x.st f d (pre ++ [(i : Int)]) (kidsOf (grow x.st f d) pre (F, bad) i).1).2]) := fun _ => rfl
  have hzero : kidsOf (grow x.st f d) pre (F, bad) 0 = ((F, bad), []) := rfl
  have HZ := Aside0.mk hzero
  have HNX := Aside0.mk hnext
  have HFIT := Aside0.mk hfit
  have HLEN := Aside0.mk hlen
  generalize kidsOf (grow x.st f d) pre (F, bad) = KF at HZ HNX HFIT HLEN ⊢
  clear hgr hfit hlen hnext hzero
  have IH := Aside0.mk ih
  have H := Aside0.mk h
  have HB := Aside0.mk hB
  have HN := Aside0.mk (And.intro hn hst)
  have HW0 := Aside0.mk hB.size
  have HP := Aside0.mk (And.intro hpre hin)
  have HW := Aside0.mk (And.intro hrow htake)
  have HR := Aside0.mk hroom
  have HLT := Aside0.mk (show (x.bi < w.heap.size ∧ x.bs < w.heap.size) ∧ ∀ v ∈ K0, v.ownBlock ≠ some w.heap.size from ⟨⟨blk_lt h.xi, blk_lt h.xs⟩, fun v hv e => by
    obtain ⟨j, hj, rfl⟩ := List.mem_iff_getElem.1 hv
    exact absurd (own_lt (h.fo.kid j _ (List.getElem?_eq_getElem hj)) _ e) (by omega)⟩)
  have hl : ¬ (pre.length : Int) = (x.n : Int) := by omega
  have i_ := (blk_cell h.xi 0).trans (show _ = some (Value.int .i64 (x.n : Int)) from rfl)
  have s_ := (blk_cell h.xs 0).trans (show _ = some (Value.int .i64 (x.st : Int)) from rfl)
  have hmk := print_make 47 3 .i64 8 Tryd.underlying47 (by kernel_rfl) (by decide) x.st (by omega)
  have hmade := own_made w w.heap.size 3 .i64 x.st (Nat.le_refl _) (by omega)
  have HMADE := Aside0.mk hmade
  have HON := Aside0.mk (h.on ((Below.refl _ _).alloc (Nat.le_refl _) (.cells (madeCells #[.int .i64 0] x.st) 3)))
  have HBN := Aside0.mk (hB.alloc hB.size (.cells (madeCells #[.int .i64 0] x.st) 3))
  have HRN := Aside0.mk (Fr2.of (Fr.below ((Below.refl w.heap.size w).alloc (Nat.le_refl _) (.cells (madeCells #[.int .i64 0] x.st) 3))))
  have s2_ := (blk_cell HON.out.xs 0).trans (show _ = some (Value.int .i64 (x.st : Int)) from rfl)
  unfold Cx.args
  clear hpre htake hin hok hroom h hB hf hn hrow hst ih hmade
  go_enter Tryd.func71, Tryd.ntmps71
  go_wp2_with fail
  clear i_ s_ s2_ hmk H HB
  go_loopg [30] x.st (fun g_ s30 wr => ∃ (i : Int) (F1 : Fo) (b1 : Bool) (ks row' : List Int) (nv' : Value) (K' : List Value), s30 = .int .i64 i ∧ Aside0 (KF i.toNat = ((F1, b1), ks)) ∧ Aside0 (0 ≤ i ∧ i ≤ x.st ∧ (g_ : Int) = x.st - i) ∧ Aside0 (row'.length = x.n ∧ row'.take pre.length = pre) ∧ Aside0 (CapAt w0.heap.size wr x F1 b1 row' nv' K') ∧ Aside0 (Below w0.heap.size w0 wr) ∧ Aside0 (Fr2 w wr) ∧ Aside0 (wr.ownsRow w.heap.size 3 1 (.slice (some ⟨w.heap.size, 0, none⟩) x.st x.st) x.st (nums .i64 (kidRow ks x.st))) ∧ Aside0 (KNew w K0 K') ∧ Aside0 (KNew (w.alloc (.cells (madeCells #[.int .i64 0] x.st) 3)) K0 K' ∧ w.heap.size < wr.heap.size))
  case atStart => exact ⟨0, F, bad, [], row, nv, K0, rfl, HZ, ⟨by omega, by omega, by omega⟩, HW, HON, HBN, HRN, HMADE, ⟨KNew.refl _ _⟩, ⟨KNew.refl _ _, by simp⟩⟩
  case round =>
    obtain ⟨i, F1, b1, ks, row', nv1, K1, rfl, HE, HX, HW1, H1, HB1, HR1, HO1, HK1, HQ1⟩ := hrel
    clear HON HBN HRN HMADE HW
    have m_ := (blk_cell H1.out.xm 0).trans (show _ = some (Value.pointer (some ⟨x.p, 0, none⟩)) from rfl)
    have hks : ks.length = i.toNat := by
      have := HLEN.out i.toNat
      rw [HE.out] at this
      exact this
    have HKS := Aside0.mk hks
    clear hks
    by_cases q : i < (x.st : Int)
    · have n_ := (blk_cell H1.out.xn 0).trans (show _ = some (Value.slice (some ⟨x.gin, 0, none⟩) x.n x.cin) from rfl)
      have hlt : (pre.length : Int) < (x.n : Int) := by have := HP.out.1; omega
      have hl0 : (0 : Int) ≤ (pre.length : Int) := by omega
      obtain ⟨c1_, c2_⟩ := own_at H1.out.inr (pre.length : Int) hl0 hlt
      rw [Int.toNat_natCast] at c1_ c2_
      have g2_ := (blk_cell (H1.out.setIn pre.length (by have := HP.out.1; omega) i).1.xg 0).trans (show _ = some (Value.func (.func 71) #[] #[.pointer (some ⟨x.bi, 0, none⟩), .pointer (some ⟨x.bf, 0, none⟩), .pointer (some ⟨x.bn, 0, none⟩), .pointer (some ⟨x.bs, 0, none⟩), .pointer (some ⟨x.bb, 0, none⟩), .pointer (some ⟨x.bm, 0, none⟩), .pointer (some ⟨x.bg, 0, none⟩)]) from rfl)
      have hx0 := HX.out.1
      have w1_ : wrap64 (i + 1) = i + 1 := by have := HN.out; unfold wrap64; omega
      have w2_ : wrap64 ((pre.length : Int) + 1) = (pre.length : Int) + 1 := by have := HN.out; unfold wrap64; omega
      have w3_ : IntKind.u8.wrap i = i := by have := HN.out; have := HX.out; unfold IntKind.wrap; simp [IntKind.signed, IntKind.bits]; omega
      have hcall := IH.out (pre ++ [(i.toNat : Int)]) (row'.set pre.length i) F1 b1 nv1 K1 (wr.setCell ⟨x.gin, pre.length, none⟩ (.int .u8 i)) (by have := HP.out.1; simp; omega) (by simp [HW1.out.1]) (by rw [show ((i.toNat : Nat) : Int) = i by have := HX.out; omega]; exact take_set row' pre i HW1.out.2 (by rw [HW1.out.1]; have := HP.out.1; omega)) (by
        intro v hv
        rcases List.mem_append.1 hv with hv | hv
        · exact HP.out.2 v hv
        · rw [List.mem_singleton.1 hv]
          have := HX.out
          omega) (by
        have h := (HFIT.out i.toNat 0 (HR.out.less (by simp only [cost]; have : i.toNat * cost x.st d ≤ x.st * cost x.st d := Nat.mul_le_mul_right _ (by omega); omega))).1
        rw [HE.out] at h
        exact h) (by
        have h := (HFIT.out i.toNat (cost x.st d) (HR.out.less (by simp only [cost]; have : (i.toNat + 1) * cost x.st d ≤ x.st * cost x.st d := Nat.mul_le_mul_right _ (show i.toNat + 1 ≤ x.st by omega); rw [Nat.add_mul] at this; omega))).2.1
        rw [HE.out] at h
        exact h) (H1.out.setIn pre.length (by have := HP.out.1; omega) i).1 (HB1.out.setCell (p := ⟨x.gin, pre.length, none⟩) (own_ge H1.out.inr _ rfl) _)
      rw [show ((pre ++ [(i.toNat : Int)]).length : Int) = (pre.length : Int) + 1 by simp] at hcall
      unfold Cx.args at hcall
      have hnx := HNX.out i.toNat
      rw [HE.out] at hnx
      dsimp only at hnx
      generalize grow x.st f d (pre ++ [(i.toNat : Int)]) (F1, b1) = R at hcall hnx
      obtain ⟨⟨F2, b2⟩, id⟩ := R
      dsimp only at hcall hnx
      have HC := Aside0.mk hcall
      have HNX1 := Aside0.mk hnx
      have HS1 := Aside0.mk (H1.out.setIn pre.length (by have := HP.out.1; omega) i).2
      have HZ1 := Aside0.mk (show wr.heap.size ≤ (wr.setCell ⟨x.gin, pre.length, none⟩ (.int .u8 i)).heap.size from Nat.le_of_eq (by simp))
      clear hcall hnx m_
      go_wp2_with (first | (go_at_call 71; (with_reducible refine HC.out.mono ?_); rintro e_ w5 ⟨rfl, row5, nv5, K5, hr5, ht5, h5, hb5, hf5, hk5, hz5⟩; clear HC; have H5 := Aside0.mk h5; have HB5 := Aside0.mk hb5; have HT5 := Aside0.mk (And.intro hr5 (take_less _ _ _ ht5)); have HF5 := Aside0.mk (HR1.out.trans (HS1.out.trans hf5)); have HK5 := Aside0.mk (HK1.out.trans hk5 (Nat.le_trans (Nat.le_of_lt HQ1.out.2) HZ1.out)); have HQ5 := Aside0.mk (HQ1.out.1.trans hk5 (by have := HQ1.out.2; have := HZ1.out; simp at this ⊢; omega)); have HO5 := Aside0.mk (own_move (w1 := w5) HO1.out (fun k hk => by obtain ⟨cs, hc⟩ := own_typed HO1.out k hk; exact (HS1.out.trans hf5) k _ _ _ hc (by decide) (by decide) (by decide) (by decide))); have HZ5 := Aside0.mk (Nat.lt_of_lt_of_le HQ1.out.2 (Nat.le_trans HZ1.out hz5)); clear hr5 ht5 h5 hb5 hf5 hk5 hz5 g2_ n_ c1_ c2_; obtain ⟨c1_, c2_⟩ := own_at HO5.out i hx0 q))
      go_roundg (x.st - (i + 1).toNat)
      case measure => go_light; have := HX.out; omega
      case rel =>
        go_light
        obtain ⟨cs, hc⟩ := own_typed HO5.out w.heap.size rfl
        have e : (i + 1).toNat = i.toNat + 1 := by omega
        have hs := (own_store HO5.out i id).1
        rw [show i.toNat = ks.length from HKS.out.symm, kidRow_set ks x.st (by rw [HKS.out]; omega)] at hs
        exact ⟨i + 1, F2, b2, ks ++ [id], row5, nv5, K5, by simp [w1_], ⟨by rw [e]; exact HNX1.out⟩, ⟨by omega, by omega, by have := HX.out; omega⟩, HT5, ⟨H5.out.setKids hc (Nat.ne_of_lt HLT.out.1.1) (Nat.ne_of_lt HLT.out.1.2) (HQ5.out.off (by simp) HLT.out.2) _⟩, ⟨HB5.out.setCell (p := ⟨w.heap.size, i.toNat, none⟩) HW0.out _⟩, ⟨HF5.out.setNew (Nat.le_refl _) _ _⟩, ⟨by rw [show i.toNat = ks.length from HKS.out.symm]; exact hs⟩, HK5, ⟨HQ5.out, by simpa using HZ5.out⟩⟩
    · have hi : i.toNat = x.st := by have := HX.out; omega
      have hE := HE.out
      rw [hi] at hE
      have hksl : ks.length = x.st := by rw [HKS.out, hi]
      have hkr : kidRow ks x.st = ks := by
        unfold kidRow
        rw [hksl, Nat.sub_self]
        exact List.append_nil _
      have ho := HO1.out
      rw [hkr] at ho
      have hft := HFIT.out x.st (x.st + 1) (HR.out.less (by simp only [cost]; omega))
      rw [hE] at hft
      dsimp only at hft
      obtain ⟨t1, t2, t3, t4⟩ := hft
      have hbr := branch_calls w0.heap.size x.p F1 nv1 x.bl x.br x.be K1 w.heap.size x.st ks wr H1.out.fo HB1.out.size t1.fine (by rw [hksl]; exact own_weaken ho HW0.out) t3 (by rw [hksl]; have := HN.out; omega) (by have := t2.c; omega) (by have := t2.a; omega) (by have := t2.d; omega)
      rw [hksl] at hbr
      have HBR := Aside0.mk hbr
      have HE2 := Aside0.mk hE
      clear hbr hE hi hksl hkr ho t1 t2 t3 t4
      go_wp2_with (first | (go_at_call 64; (with_reducible refine HBR.out.mono ?_); rintro e_ w6 ⟨rfl, nv6, K6, hf6, hb6, hr6, hk6⟩; have H6 := Aside0.mk (H1.out.frame hr6 hf6); have HB6 := Aside0.mk (HB1.out.trans hb6); have HF6 := Aside0.mk (HR1.out.trans (Fr2.of hr6)); have HK6 := Aside0.mk (HK1.out.trans hk6 (Nat.le_of_lt HQ1.out.2)); have HZ6 := Aside0.mk (Nat.le_trans (Nat.le_of_lt HQ1.out.2) hb6.size); clear m_ hf6 hb6 hr6 hk6))
      go_ret
      go_light
      rw [HE2.out]
      exact ⟨rfl, row', nv6, K6, HW1.out.1, HW1.out.2, H6.out, HB6.out, HF6.out, HK6.out, HZ6.out⟩
theorem grow_calls (x : Cx) (w0 : World) (f : List Int → Int) (hf : FOk x w0 f) (hn : x.n ≤ 16) (hst : 1 ≤ x.st ∧ x.st ≤ 256) : ∀ d, GrowOk x w0 f d
  | 0 => grow_zero x w0 f hf hn
  | d + 1 => grow_succ x w0 f hf hn hst d (grow_calls x w0 f hf hn hst d)
end Go.Proofs.YtbnonnogkgbpiaaDoor.Forest
end
section
namespace Go.Proofs.YtbnonnogkgbpiaaDoorW.PrintLast
section
variable {P : Program} {ops : Array Oper} {Q : Exit → Act → World → Prop} {md : Region.Mode} {S : World → Prop} {ds : List Nat} {T : Bool × List (List Nat × List Nat)}
end
end Go.Proofs.YtbnonnogkgbpiaaDoorW.PrintLast
end
section
namespace Go.Proofs.YtbnonnogkgbpiaaDoorW.PrintWords
open Go.RowKit
namespace Kd
section
variable {α : Type} {d : Kd α} {W : World} {g n : Nat} {S ok : Nat → Prop} {A : Option Addr} {ad : Addr} {xs : List α}
end
end Kd
end Go.Proofs.YtbnonnogkgbpiaaDoorW.PrintWords
end
section
namespace Go.Proofs.YtbnonnogkgbpiaaDoorW.PrintWords
open Go.RowKit
section
variable {w w' u : World} {m B g : Nat} {o : Obj} {row : Option Nat} {S : Nat → Prop} {a : Addr} {v : Value}
theorem below_at (hq : w.drewN m = w') (h : Below B u w) : Below B u w' := by subst hq; exact pw_below_drewN h m
theorem blk_at (hq : w.drewN m = w') (h : w.heap[g]? = some o) : w'.heap[g]? = some o := by subst hq; exact h
end
namespace Kd
section
variable {α : Type} {d : Kd α} {e base n m : Nat} {ok : Nat → Prop} {w w' : World} {v : Value} {A : Option Addr} {xs : List α}
theorem R_at (hq : w.drewN m = w') (h : d.R e w base ok v xs) : d.R e w' base ok v xs := by subst hq; exact R_drewN h m
end
end Kd
end Go.Proofs.YtbnonnogkgbpiaaDoorW.PrintWords
end
section
namespace Go.Proofs.YtbnonnogkgbpiaaDoorW.PrintWords
open Go.RowKit
section
variable {P : Program} {d : Nat} {xs ys : Array Value} {f : Field} {fs : List Field} {a b : Value} {r s : Bool} {w : World}
end
end Go.Proofs.YtbnonnogkgbpiaaDoorW.PrintWords
end
section
namespace Go.Proofs.YtbnonnogkgbpiaaDoorW.PrintWords
theorem Reps.one {α : Type} {R : α → List Value → Prop} {ps : List α} {cs : List Value} {p : α} {v : Value} (hp : R p [v]) (h : Reps R 1 ps cs) : Reps R 1 (p :: ps) (v :: cs) := by
  refine ⟨by simp [h.1], fun j q hq => ?_⟩
  cases j with
  | zero =>
    simp only [List.getElem?_cons_zero, Option.some.injEq] at hq
    subst hq
    simpa using hp
  | succ j =>
    simp only [List.getElem?_cons_succ] at hq
    have h1 := h.2 j q hq
    simpa [Nat.mul_one] using h1
theorem Reps.front {α : Type} {R : α → List Value → Prop} {size : Nat} {ps : List α} {cs c all : List Value} {p : α} (hp : R p c) (hc : c.length = size) (h : Reps R size ps cs) (ha : c ++ cs = all) : Reps R size (p :: ps) all := by
  subst ha
  refine ⟨by rw [List.length_append, hc, h.1, List.length_cons, Nat.succ_mul, Nat.add_comm], fun j q hq => ?_⟩
  cases j with
  | zero =>
    simp only [List.getElem?_cons_zero, Option.some.injEq] at hq
    subst hq
    rw [Nat.zero_mul, List.drop_zero, List.take_append_of_le_length (by omega), List.take_of_length_le (by omega)]
    exact hp
  | succ j =>
    simp only [List.getElem?_cons_succ] at hq
    have h1 := h.2 j q hq
    rw [Nat.succ_mul, List.drop_append, List.drop_of_length_le (by rw [hc]; exact Nat.le_add_left _ _), List.nil_append, hc, Nat.add_sub_cancel]
    exact h1
theorem Reps.c2 {α : Type} {R : α → List Value → Prop} {ps : List α} {cs : List Value} {p : α} {va vb : Value} (hp : R p [va, vb]) (h : Reps R 2 ps cs) : Reps R 2 (p :: ps) (va :: vb :: cs) := Reps.front hp rfl h rfl
theorem Reps.c3 {α : Type} {R : α → List Value → Prop} {ps : List α} {cs : List Value} {p : α} {va vb vc : Value} (hp : R p [va, vb, vc]) (h : Reps R 3 ps cs) : Reps R 3 (p :: ps) (va :: vb :: vc :: cs) := Reps.front hp rfl h rfl
theorem Reps.c4 {α : Type} {R : α → List Value → Prop} {ps : List α} {cs : List Value} {p : α} {va vb vc vd : Value} (hp : R p [va, vb, vc, vd]) (h : Reps R 4 ps cs) : Reps R 4 (p :: ps) (va :: vb :: vc :: vd :: cs) := Reps.front hp rfl h rfl
theorem Reps.c5 {α : Type} {R : α → List Value → Prop} {ps : List α} {cs : List Value} {p : α} {va vb vc vd ve : Value} (hp : R p [va, vb, vc, vd, ve]) (h : Reps R 5 ps cs) : Reps R 5 (p :: ps) (va :: vb :: vc :: vd :: ve :: cs) := Reps.front hp rfl h rfl
theorem Reps.c6 {α : Type} {R : α → List Value → Prop} {ps : List α} {cs : List Value} {p : α} {va vb vc vd ve vf : Value} (hp : R p [va, vb, vc, vd, ve, vf]) (h : Reps R 6 ps cs) : Reps R 6 (p :: ps) (va :: vb :: vc :: vd :: ve :: vf :: cs) := Reps.front hp rfl h rfl
theorem Reps.c7 {α : Type} {R : α → List Value → Prop} {ps : List α} {cs : List Value} {p : α} {va vb vc vd ve vf vg : Value} (hp : R p [va, vb, vc, vd, ve, vf, vg]) (h : Reps R 7 ps cs) : Reps R 7 (p :: ps) (va :: vb :: vc :: vd :: ve :: vf :: vg :: cs) := Reps.front hp rfl h rfl
theorem Reps.c8 {α : Type} {R : α → List Value → Prop} {ps : List α} {cs : List Value} {p : α} {va vb vc vd ve vf vg vh : Value} (hp : R p [va, vb, vc, vd, ve, vf, vg, vh]) (h : Reps R 8 ps cs) : Reps R 8 (p :: ps) (va :: vb :: vc :: vd :: ve :: vf :: vg :: vh :: cs) := Reps.front hp rfl h rfl
theorem Reps.c9 {α : Type} {R : α → List Value → Prop} {ps : List α} {cs : List Value} {p : α} {va vb vc vd ve vf vg vh vi : Value} (hp : R p [va, vb, vc, vd, ve, vf, vg, vh, vi]) (h : Reps R 9 ps cs) : Reps R 9 (p :: ps) (va :: vb :: vc :: vd :: ve :: vf :: vg :: vh :: vi :: cs) := Reps.front hp rfl h rfl
theorem Reps.c10 {α : Type} {R : α → List Value → Prop} {ps : List α} {cs : List Value} {p : α} {va vb vc vd ve vf vg vh vi vj : Value} (hp : R p [va, vb, vc, vd, ve, vf, vg, vh, vi, vj]) (h : Reps R 10 ps cs) : Reps R 10 (p :: ps) (va :: vb :: vc :: vd :: ve :: vf :: vg :: vh :: vi :: vj :: cs) := Reps.front hp rfl h rfl
end Go.Proofs.YtbnonnogkgbpiaaDoorW.PrintWords
end
section
namespace Go.Proofs.YtbnonnogkgbpiaaDoorW.PrintWords
open Go.RowKit
end Go.Proofs.YtbnonnogkgbpiaaDoorW.PrintWords
namespace Go.Proofs.YtbnonnogkgbpiaaDoorW.PrintLast
section
variable {ops : Array Oper} {a : Act} {o og : Oper} {g : Nat} {t : Tmp} {u : Bool}
end
end Go.Proofs.YtbnonnogkgbpiaaDoorW.PrintLast
end
section
namespace Go.Proofs.YtbnonnogkgbpiaaDoorW.PrintWords
open Go.RowKit
section
variable {P : Program} {ops : Array Oper} {rest : List Oper} {o : Oper} {a : Act} {Q : Exit → Act → World → Prop} {W : World}
theorem gate_guard (hw : Region.wanted o (yielded ops a.tmps) = true) (h : wpList P ops Q ({ o with guard := none } :: rest) a W) : wpList P ops Q (o :: rest) a W := by
  have h1 : Region.wanted { o with guard := none } (yielded ops a.tmps) = true := rfl
  unfold wpList at h ⊢
  rw [if_pos h1] at h
  rw [if_pos hw]
  exact h
end
end Go.Proofs.YtbnonnogkgbpiaaDoorW.PrintWords
end
section
namespace Go.Proofs.YtbnonnogkgbpiaaDoor.PT
open Go.RowKit Go.Proofs.YtbnonnogkgbpiaaDoorW.PrintWords Go.Proofs.YtbnonnogkgbpiaaDoorW.PrintLast Go.Proofs.YtbnonnogkgbpiaaDoorW.PrintMore
attribute [local go_sem] max2_int min2_int max_two min_two max_three min_three max_four min_four   -- for this text's walks alone
set_option linter.unusedVariables false
set_option linter.unusedSimpArgs false
def errW : Option Int → Value
  | none => .nilIface
  | some c => .iface 0 (.int .i64 c)
theorem errW_none : errW none = .nilIface := rfl
theorem errW_some (c : Int) : errW (some c) = .iface 0 (.int .i64 c) := rfl
theorem info3 : (Tryd.prog.info? 3).map (fun i => (i.zero, i.size, i.bytes)) = some (some (.int .i64 0), 1, 8) := by kernel_rfl
theorem info5 : (Tryd.prog.info? 5).map (fun i => (i.zero, i.size, i.bytes)) = some (some (.int .u8 0), 1, 1) := by kernel_rfl
structure S49 where
  f0 : Int
  f1 : (List Int)
def z49 : S49 := ⟨(0 : Int), ([] : List Int)⟩
def k49 : Kd S49 := Kd.iso (Kd.pair (Kd.int .u8) (Kd.slice 3 (Kd.int .i64))) (fun x : S49 => (x.f0, x.f1))
theorem k49_open {w : World} {x : S49} {cs : List Value} (h : k49.K w x cs) : ∃ A1 c1, cs = [.int .u8 x.f0, .slice A1 x.f1.length c1] ∧ x.f1.length ≤ c1 ∧ (Kd.int .i64).C w A1 x.f1.length x.f1 := by
  obtain ⟨_, _, rfl, rfl, ⟨A1, c1, rfl, l1, g1⟩⟩ := h
  exact ⟨A1, c1, rfl, l1, g1⟩
theorem k49_mk (w : World) (x : S49) {A1 : Option Addr} {c1 : Nat} (l1 : x.f1.length ≤ c1) (g1 : (Kd.int .i64).C w A1 x.f1.length x.f1) : k49.K w x [.int .u8 x.f0, .slice A1 x.f1.length c1] := ⟨[.int .u8 x.f0], [.slice A1 x.f1.length c1], rfl, rfl, ⟨A1, c1, rfl, l1, g1⟩⟩
theorem k49_mkM (w : World) (base : Nat) (ok : Nat → Prop) (x : S49) {v1 : Value} (g1 : (Kd.int .i64).R 3 w base ok v1 x.f1) : k49.M w base ok x [.int .u8 x.f0, v1] := ⟨[.int .u8 x.f0], [v1], rfl, rfl, ⟨v1, rfl, g1⟩⟩
def rd_T49 (xs : List S49) (i : Int) : S49 := xs.getD i.toNat z49
theorem at_T49 {w : World} {A : Option Addr} {n : Nat} {xs : List S49} (h : Kd.C k49 w A n xs) (i : Int) (h0 : 0 ≤ i) (h1 : i < n) : ∃ ad A1 c1, A = some ad ∧ w.cell? (ad.add (i.toNat * 2)) = some (.int .u8 (rd_T49 xs i).f0) ∧ w.cell? ⟨(ad.add (i.toNat * 2)).block, (ad.add (i.toNat * 2)).off + 1, none⟩ = some (.slice A1 (rd_T49 xs i).f1.length c1) ∧ (rd_T49 xs i).f1.length ≤ c1 ∧ (Kd.int .i64).C w A1 (rd_T49 xs i).f1.length (rd_T49 xs i).f1 := by
  obtain ⟨ad, c, e, _, hK, hc0⟩ := Kd.C_get h z49 i h0 h1
  have hc : ∀ j u, c[j]? = some u → w.cell? (ad.add (i.toNat * 2 + j)) = some u := hc0
  obtain ⟨A1, c1, rfl, l1, g1⟩ := k49_open hK
  exact ⟨ad, A1, c1, e, hc 0 _ rfl, by rw [← add_field _ _ 1 (by omega)]; exact hc 1 _ rfl, l1, g1⟩
end Go.Proofs.YtbnonnogkgbpiaaDoor.PT
end
