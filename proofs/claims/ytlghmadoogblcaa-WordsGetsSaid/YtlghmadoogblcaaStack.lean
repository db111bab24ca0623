/- The answers of a book: each a row of one's own; what becomes of them when they are marked and grown. -/
import Derived.Test.YtlghmadoogblcaaBook
import Derived.Deep.AppendLies
import Derived.Laws.OwnMore
import Derived.ArgAppend
namespace Go.Proofs.Ytlghmadoogblcaa.Book
open Go Go.RowKit Go.Proofs.YtlghmadoogblcaaW.PrintWords Go.Proofs.YtlghmadoogblcaaW.PrintLast Go.Proofs.YtlghmadoogblcaaW.PrintMore Go.Proofs.Ytlghmadoogblcaa.PS Go.Proofs.Ytlghmadoogblcaa.Bx
set_option linter.unusedVariables false
set_option linter.unusedSimpArgs false
section
variable {P : Program} (w : World)
/-- One value more: in the row's own block, or in a new one; then the old block stays. -/
theorem run_append_two (t ty : TypeId) (base : Nat) (e : TypeId) (i : TypeInfo) (z : Value) (bytes : Nat) (ht : P.underlying t = some (.slice e)) (hi : P.info? e = some i) (hz : i.zero = some z)
    (hsize : i.size = 1) (hby : i.bytes = bytes) (hzs : z.cells.size = 1) (v : Value) (n : Nat) (xs : List Value) (hown : w.ownsRow base e 1 v n xs)
    (ad : Addr) (c : Nat) (y : Value) (hnews : ∀ j u, [y][j]? = some u → w.cell? (ad.add j) = some u) (h1 : y.oneCell' = true)
    (h63 : n + 1 ≤ maxLen) (hbytes : (n + 1) * bytes ≤ 140737488355328) (hbase : base ≤ w.heap.size) :
    ∃ g cap w', (Builtin.append_ #[t, t] ty #[v, .slice (some ad) 1 c]).run P w = .ok (.slice (some ⟨g, 0, none⟩) (n + 1) cap) w' ∧ w'.ownsRow base e 1 (.slice (some ⟨g, 0, none⟩) (n + 1) cap) (n + 1) (xs ++ [y]) ∧
      ((v.ownBlock = some g ∧ w.grownBy w' (some g)) ∨ (w.heap.size ≤ g ∧ w.grownBy w' none)) := by
  have h1' : ∀ u ∈ [y], u.oneCell' = true := by simpa using h1
  rcases hown.2 with ⟨rfl, rfl⟩ | ⟨g, cap, cur, rfl, hbg, hg, hnc, hcm, hcs, htake⟩
  · obtain ⟨g, cap, w', hr, h2, h3, h4, h5⟩ := run_append_lies (P := P) w t ty base e i z 1 bytes ht hi hz hsize hby hzs (by decide) _ 0 xs hown ad 1 c [y] rfl hnews h1' (by decide) h63 hbytes hbase w.heap.size rfl
    refine ⟨g, cap, w', hr, h2, .inr ⟨?_, h3⟩⟩
    rcases h4 with h4 | h4
    · simp [Value.ownBlock] at h4
    · exact Nat.le_of_eq h4.symm
  · by_cases hroom : n + 1 ≤ cap
    · obtain ⟨w', hr, h2, h3⟩ := run_append_fits (P := P) w base t ty e i 1 ht hi hsize g n cap xs hown ad 1 c [y] rfl hnews h1' hroom
      exact ⟨g, cap, w', hr, h2, .inl ⟨rfl, h3⟩⟩
    · obtain ⟨v', w', hr, h2, h3⟩ := run_append_arg_grows (P := P) w t ty e i z 1 bytes ht hi hz hsize hby hzs (by decide) ⟨g, 0, none⟩ n cap xs hown.1 (hown.cells (g := g) rfl) ad 1 c [y] rfl hnews (by omega) h63 hbytes
      obtain ⟨g', cap', rfl, hb', _⟩ := h2.form (by omega)
      exact ⟨g', cap', w', hr, own_weaken h2 hbase, .inr ⟨hb', h3⟩⟩
/-- At the operation of a plain region, behind the box of the one value. -/
theorem print_append_two {ops : Array Oper} {rest : List Oper} {o : Oper} {a : Act} {Q : Exit → Act → World → Prop} {W : World} (base : Nat) (hgd : o.guard = none) (s x : Operand) (t e : TypeId) (z : Value) (bytes : Nat)
    (ho : o.op = .call { callee := .builtin .append, args := #[s, x], argTypes := #[t, t] })
    (ht : P.underlying t = some (.slice e)) (hinfo : (P.info? e).map (fun i => (i.zero, i.size, i.bytes)) = some (some z, 1, bytes)) (hz : z.cells.size = 1)
    (v : Value) (n : Nat) (xs : List Value) (y : Value) (hs : a.eval s = v) (hx : a.eval x = .slice (some ⟨W.heap.size, 0, none⟩) 1 1) (h1 : y.oneCell' = true)
    (HO : W.ownsRow base e 1 v n xs) (hbase : base ≤ W.heap.size) (h63 : n + 1 ≤ maxLen) (hl : (n + 1) * bytes ≤ 140737488355328)
    (h : ∀ g cap w1, w1.ownsRow base e 1 (.slice (some ⟨g, 0, none⟩) (n + 1) cap) (n + 1) (xs ++ [y]) → ((v.ownBlock = some g ∧ W.grownBy w1 (some g)) ∨ (W.heap.size ≤ g ∧ W.grownBy w1 none)) → wpList P ops Q rest (a.put o.dst (.slice (some ⟨g, 0, none⟩) (n + 1) cap)) w1) :
    wpList P ops Q (o :: rest) a (W.alloc (.cells #[y] e)) := by
  obtain ⟨i0, hi, hzz⟩ := Option.map_eq_some_iff.1 hinfo
  simp only [Prod.mk.injEq] at hzz
  obtain ⟨hz0, hz1, hz2⟩ := hzz
  refine wpList_plain hgd fun K hK => ?_
  obtain ⟨g, cap, w', hr, h2, h3⟩ := run_append_two (P := P) (W.alloc (.cells #[y] e)) t o.type base e i0 z bytes ht hi hz0 hz1 hz2 hz v n xs (HO.alloc _) ⟨W.heap.size, 0, none⟩ 1 y
    (World.news_of_block (cs := #[y]) (t := e) (fr := (0, 0)) (heap_alloc_new W _)) h1 h63 hl (by simp; omega)
  unfold Oper.wp execOp
  simp only [ho, resolve, invoke, builtin, Sem.run_bind, Sem.run_pure, Result.andThen_ok, List.map_toArray, List.map_cons, List.map_nil, hs, hx, hr]
  refine hK _ _ (h g cap w' h2 ?_)
  rcases h3 with ⟨h3, h4⟩ | ⟨h3, h4⟩
  · exact .inl ⟨h3, World.grownBy.trans (World.grownBy_alloc W _ _) h4⟩
  · exact .inr ⟨by simp at h3; omega, World.grownBy.trans (World.grownBy_alloc W _ _) h4⟩
end
theorem gby_none {w w' : World} {r : Option Nat} (h : w.grownBy w' none) : w.grownBy w' r := ⟨h.os, h.tape, h.output, h.size, fun k hk _ => h.block k hk (by simp)⟩
/-- An answer: its number of bits, its words' slice, the slice of what it must be, the words. -/
structure Ans where
  n : Int
  v : Value
  u : Value
  xs : List Int
def gots (Z : List Ans) : List (List Value) := Z.map fun z => el z.n z.v
def wants (Z : List Ans) : List (List Value) := Z.map fun z => el z.n z.u
/-- A row of words of the call's own. -/
abbrev Own (w0 W : World) (v : Value) (xs : List Int) : Prop := W.ownsRow w0.heap.size 22 1 v xs.length (nums .u64 xs)
def Apart (Z : List Ans) : Prop := ∀ (i j : Nat) x y, i < j → Z[i]? = some x → Z[j]? = some y → x.v.ownBlock = none ∨ x.v.ownBlock ≠ y.v.ownBlock
structure Stack (w0 W : World) (b : Nat) (gv wv : Value) (Z : List Ans) : Prop where
  book : BookIs w0 W b gv wv (gots Z) (wants Z)
  own : ∀ (j : Nat) z, Z[j]? = some z → Own w0 W z.v z.xs
  ref : ∀ (j : Nat) z, Z[j]? = some z → Own w0 W z.u z.xs
  apart : Apart Z
theorem Stack.on {w0 W W' : World} {b : Nat} {gv wv : Value} {Z : List Ans} (h : Stack w0 W b gv wv Z) (hb : Below W.heap.size W W') : Stack w0 W' b gv wv Z :=
  ⟨h.book.on hb, fun j z hz => pw_own_below (h.own j z hz) hb, fun j z hz => pw_own_below (h.ref j z hz) hb, h.apart⟩
theorem gots_get {Z : List Ans} {j : Nat} {z : Ans} (h : Z[j]? = some z) : (gots Z)[j]? = some (el z.n z.v) := by simp [gots, h]
theorem wants_get {Z : List Ans} {j : Nat} {z : Ans} (h : Z[j]? = some z) : (wants Z)[j]? = some (el z.n z.u) := by simp [wants, h]
theorem ans_get {Z : List Ans} {x : Int} (h0 : 0 ≤ x) (h1 : x < (Z.length : Int)) : ∃ z, Z[x.toNat]? = some z := ⟨_, List.getElem?_eq_getElem (show x.toNat < Z.length by omega)⟩
/-- A row of the book, as it is read. -/
theorem raw_at {W : World} {base : Nat} {ok : Nat → Prop} {ad : Addr} {n c : Nat} {X : List (List Value)} {x : Int} {m : Int} {v : Value} (h : (Kd.raw 2).R 31 W base ok (.slice (some ad) n c) X) (h0 : 0 ≤ x) (h1 : x < (n : Int)) (hx : X[x.toNat]? = some (el m v)) :
    W.cell? (ad.add (x.toNat * 2)) = some (.int .i64 m) ∧ W.cell? ⟨(ad.add (x.toNat * 2)).block, (ad.add (x.toNat * 2)).off + 1, none⟩ = some v := by
  obtain ⟨cs, hl, hM, hc⟩ := Kd.R_getA h [] x h0 h1
  have hd : X.getD x.toNat [] = el m v := by rw [List.getD_eq_getElem?_getD, hx]; rfl
  rw [hd] at hM
  obtain ⟨rfl, _, _⟩ := hM
  have hc' : ∀ j u, (el m v)[j]? = some u → W.cell? (ad.add (x.toNat * 2 + j)) = some u := hc
  exact ⟨hc' 0 _ rfl, by rw [← add_field _ _ 1 (by omega)]; exact hc' 1 _ rfl⟩
theorem raw1_at {W : World} {base : Nat} {ok : Nat → Prop} {ad : Addr} {n c : Nat} {X : List (List Value)} {x : Int} {v : Value} (h : (Kd.raw 1).R 29 W base ok (.slice (some ad) n c) X) (h0 : 0 ≤ x) (h1 : x < (n : Int)) (hx : X[x.toNat]? = some [v]) :
    W.cell? (ad.add x.toNat) = some v := by
  obtain ⟨cs, hl, hM, hc⟩ := Kd.R_getA h [] x h0 h1
  have hd : X.getD x.toNat [] = [v] := by rw [List.getD_eq_getElem?_getD, hx]; rfl
  rw [hd] at hM
  obtain ⟨rfl, _, _⟩ := hM
  have hc' : ∀ j u, [v][j]? = some u → W.cell? (ad.add (x.toNat * 1 + j)) = some u := hc
  have := hc' 0 v rfl
  rwa [show x.toNat * 1 + 0 = x.toNat by omega] at this
/-- A slice of rows that holds something has an address. -/
theorem raw_addr {d : Kd (List Value)} {e : Nat} {W : World} {base : Nat} {ok : Nat → Prop} {v : Value} {X : List (List Value)} (h : d.R e W base ok v X) : ∃ A c, v = .slice A X.length c ∧ (0 < X.length → ∃ ad, A = some ad) := by
  obtain ⟨_, inner, ho, hr⟩ := h
  rcases ho.2 with ⟨rfl, h0⟩ | ⟨g, cap, cur, rfl, _⟩
  · exact ⟨none, 0, by rw [h0], fun hp => by omega⟩
  · exact ⟨_, cap, rfl, fun _ => ⟨_, rfl⟩⟩
/-! ### Marked -/
def marked (i k j : Nat) (xs : List Int) : List Int := if j < i then List.replicate xs.length (100 + (j : Int)) else if j = i then List.replicate k (100 + (j : Int)) ++ xs.drop k else xs
theorem marked_length {i k j : Nat} {xs : List Int} (hk : j = i → k ≤ xs.length) : (marked i k j xs).length = xs.length := by
  unfold marked
  split
  · simp
  · split
    · rename_i h; have := hk h; simp; omega
    · rfl
theorem marked_zero (j : Nat) (xs : List Int) : marked 0 0 j xs = xs := by
  unfold marked
  split
  · omega
  · split <;> simp
theorem marked_other {i k k' j : Nat} (h : j ≠ i) (xs : List Int) : marked i k j xs = marked i k' j xs := by
  unfold marked
  split
  · rfl
  · simp only [if_neg h]
theorem marked_set {i k : Nat} {xs : List Int} (h : k < xs.length) : (marked i k i xs).set k (100 + (i : Int)) = marked i (k + 1) i xs := by
  unfold marked
  rw [if_neg (Nat.lt_irrefl i), if_pos rfl, if_neg (Nat.lt_irrefl i), if_pos rfl]
  rw [List.set_append_right _ _ (by simp)]
  rw [List.length_replicate, Nat.sub_self, List.drop_eq_getElem_cons h, List.set_cons_zero]
  rw [List.replicate_succ', List.append_assoc]
  rfl
theorem marked_next (i j k : Nat) (xs : List Int) (hk : j = i → k = xs.length) : marked i k j xs = marked (i + 1) 0 j xs := by
  unfold marked
  by_cases h1 : j < i
  · rw [if_pos h1, if_pos (by omega)]
  · rw [if_neg h1]
    by_cases h2 : j = i
    · rw [if_pos h2, if_pos (by omega), hk h2]; simp
    · rw [if_neg h2, if_neg (by omega)]
      split <;> simp
theorem marked_all {i j : Nat} (h : j < i) (xs : List Int) : marked i 0 j xs = List.replicate xs.length (100 + (j : Int)) := if_pos h
structure Base (w0 W : World) (b : Nat) (gv wv : Value) (Z : List Ans) : Prop where
  hb : W.heap[b]? = some (.cells #[gv, wv, .bool false] 40 (0, 0))
  rg : (Kd.raw 2).R 31 W w0.heap.size (fun _ => True) gv (gots Z)
  be : Below w0.heap.size w0 W
  ge : w0.heap.size ≤ b
  apart : Apart Z
section
variable {w0 w W W' W1 : World} {b : Nat} {gv wv mv : Value} {Z : List Ans} {z : Ans} {M : List Value}
theorem Base.at_ (h : Base w0 W b gv wv Z) : W.cell? ⟨b, 0, none⟩ = some gv ∧ W.cell? ⟨b, 1, none⟩ = some wv ∧ W.cell? ⟨b, 2, none⟩ = some (.bool false) :=
  ⟨(blk_cell h.hb 0).trans rfl, (blk_cell h.hb 1).trans rfl, (blk_cell h.hb 2).trans rfl⟩
/-- Words were written over, or a row of words has grown. -/
theorem Base.grownT (T : TypeId) (hT1 : 40 ≠ T) (hT2 : 31 ≠ T) (h : Base w0 W b gv wv Z) {row : Option Nat} (hg : W.grownBy W' row) (hrow : ∀ g, row = some g → w0.heap.size ≤ g ∧ ∃ cs, W.heap[g]? = some (.cells cs T (0, 0))) : Base w0 W' b gv wv Z := by
  have nb : some b ≠ row := by
    intro hbr
    obtain ⟨_, cs, hc⟩ := hrow b hbr.symm
    rw [h.hb] at hc
    injection hc with hc
    injection hc with _ hc
    exact hT1 hc
  refine ⟨blk_grown h.hb hg nb, ?_, h.be.grown hg h.be.size (fun k hk => (hrow k hk).1), h.ge, h.apart⟩
  cases row with
  | none => exact Kd.R_grown h.rg hg (fun _ _ => by simp)
  | some g =>
    obtain ⟨_, cs, hc⟩ := hrow g rfl
    exact Kd.R_mono (Kd.R_grown (Kd.R_types h.rg hc (by intro q hq; simp [Kd.raw] at hq; subst hq; exact hT2)) hg (fun k hk e => hk.2 (Option.some.inj e))) (fun _ _ => trivial)
theorem Base.grown (h : Base w0 W b gv wv Z) {row : Option Nat} (hg : W.grownBy W' row) (hrow : ∀ g, row = some g → w0.heap.size ≤ g ∧ ∃ cs, W.heap[g]? = some (.cells cs 22 (0, 0))) : Base w0 W' b gv wv Z := h.grownT _ (by decide) (by decide) hg hrow
structure Marks (w0 W : World) (b : Nat) (gv wv : Value) (Z : List Ans) (i k : Nat) : Prop where
  base : Base w0 W b gv wv Z
  own : ∀ (j : Nat) z, Z[j]? = some z → W.ownsRow w0.heap.size 22 1 z.v z.xs.length (nums .u64 (marked i k j z.xs))
theorem Marks.start (h : Stack w0 W b gv wv Z) : Marks w0 W b gv wv Z 0 0 :=
  ⟨⟨h.book.hb, h.book.rg, h.book.be, h.book.ge, h.apart⟩, fun j z hz => by rw [marked_zero]; exact h.own j z hz⟩
theorem Marks.next {i k : Nat} (h : Marks w0 W b gv wv Z i k) (hz : Z[i]? = some z) (hk : k = z.xs.length) : Marks w0 W b gv wv Z (i + 1) 0 :=
  ⟨h.base, fun j y hy => by rw [← marked_next i j k]; exact h.own j y hy; intro e; subst e; rw [hz] at hy; cases hy; exact hk⟩
theorem own_block {base n : Nat} {e : TypeId} {v : Value} {xs : List Value} (h : W.ownsRow base e 1 v n xs) : ∀ g, v.ownBlock = some g → base ≤ g ∧ ∃ cs, W.heap[g]? = some (.cells cs e (0, 0)) := fun g hg => ⟨own_base h g hg, own_typed h g hg⟩
theorem Marks.store {i g c : Nat} {x y : Int} (h : Marks w0 W b gv wv Z i y.toNat) (hz : Z[i]? = some z) (hv : z.v = .slice (some ⟨g, 0, none⟩) z.xs.length c) (hx : (i : Int) = x) (hy0 : 0 ≤ y) (hy : y < (z.xs.length : Int)) :
    Marks w0 (W.setCell ⟨g, y.toNat, none⟩ (.int .u64 (100 + x))) b gv wv Z i (y.toNat + 1) := by
  have ho := h.own i z hz
  have ob := own_block ho g (by rw [hv]; rfl)
  rw [hv] at ho
  obtain ⟨h1, h2⟩ := own_store ho y (100 + x)
  rw [← hx, marked_set (by omega)] at h1
  refine ⟨h.base.grown h2 (fun k hk => by cases hk; exact ob), fun j q hq => ?_⟩
  by_cases hji : j = i
  · subst hji
    rw [hz] at hq
    cases hq
    rw [hv, ← hx]
    exact h1
  · rw [marked_other hji (k' := y.toNat)]
    refine own_other (h.own j q hq) h2 ?_
    rcases Nat.lt_or_gt_of_ne hji with hlt | hgt
    · rcases h.base.apart j i q z hlt hq hz with a | a
      · exact .inl a
      · right; rw [hv] at a; exact a
    · rcases h.base.apart i j z q hgt hz hq with a | a
      · rw [hv] at a; simp [Value.ownBlock] at a
      · right; rw [hv] at a; exact fun e => a e.symm
/-! ### Grown -/
def Full (W : World) (j : Nat) (v : Value) (n : Nat) : Prop := ∀ k, k < n → ∃ g, v.ownBlock = some g ∧ W.cell? ⟨g, k, none⟩ = some (.int .u64 (100 + (j : Int)))
theorem Full.of_own {base n : Nat} {e : TypeId} {v : Value} {j : Nat} (h : W.ownsRow base e 1 v n (nums .u64 (List.replicate n (100 + (j : Int))))) : Full W j v n := by
  intro k hk
  obtain ⟨g, cap, rfl, _, _⟩ := h.form (by omega)
  refine ⟨g, rfl, ?_⟩
  have := h.cells (g := g) rfl k (.int .u64 (100 + (j : Int))) (by simp [nums, hk])
  rwa [add_plain] at this
theorem Full.keep {v : Value} {j n : Nat} (h : Full W j v n) {row : Option Nat} (hg : W.grownBy W' row) (hne : v.ownBlock = none ∨ v.ownBlock ≠ row) : Full W' j v n := by
  intro k hk
  obtain ⟨g, e, hc⟩ := h k hk
  refine ⟨g, e, hg.cell hc ?_⟩
  rcases hne with a | a
  · rw [a] at e; cases e
  · rw [e] at a; exact a
structure MoreIs (w0 W : World) (Z : List Ans) (j : Nat) (v : Value) (n : Nat) : Prop where
  at_ : ∃ g c cs, v = .slice (some ⟨g, 0, none⟩) (n + 70) c ∧ n + 70 ≤ c ∧ W.heap[g]? = some (.cells cs 22 (0, 0))
  full : Full W j v (n + 70)
  far : ∀ (l : Nat) y, j < l → Z[l]? = some y → y.v.ownBlock = none ∨ y.v.ownBlock ≠ v.ownBlock
structure Grow (w0 W : World) (b : Nat) (gv wv : Value) (Z : List Ans) (mv : Value) (M : List Value) : Prop where
  base : Base w0 W b gv wv Z
  rm : (Kd.raw 1).R 29 W w0.heap.size (fun _ => True) mv (M.map fun v => [v])
  got : ∀ (j : Nat) z, Z[j]? = some z → Full W j z.v z.xs.length
  own : ∀ (j : Nat) z, M.length ≤ j → Z[j]? = some z → W.ownsRow w0.heap.size 22 1 z.v z.xs.length (nums .u64 (List.replicate z.xs.length (100 + (j : Int))))
  gtyp : ∀ (j : Nat) z g, Z[j]? = some z → z.v.ownBlock = some g → ∃ cs, W.heap[g]? = some (.cells cs 22 (0, 0))
  more : ∀ (j : Nat) v z, M[j]? = some v → Z[j]? = some z → MoreIs w0 W Z j v z.xs.length
theorem Grow.start (h : Marks w0 W b gv wv Z Z.length 0) : Grow w0 W b gv wv Z (.slice none 0 0) [] := by
  have lt : ∀ (j : Nat) z, Z[j]? = some z → j < Z.length := fun j z hz => (List.getElem?_eq_some_iff.1 hz).1
  have ho : ∀ (j : Nat) z, Z[j]? = some z → W.ownsRow w0.heap.size 22 1 z.v z.xs.length (nums .u64 (List.replicate z.xs.length (100 + (j : Int)))) := fun j z hz => by
    have := h.own j z hz; rwa [marked_all (lt j z hz)] at this
  exact ⟨h.base, Kd.R_nil _ _ _ _ _, fun j z hz => Full.of_own (ho j z hz), fun j z _ hz => ho j z hz, fun j z g hz hg => own_typed (ho j z hz) g hg, fun j v z hv => by simp at hv⟩
/-- While answer j's row grows: since W, m words more. -/
structure Growing (w0 W W' : World) (j : Nat) (z : Ans) (v : Value) (m : Nat) : Prop where
  own : W'.ownsRow w0.heap.size 22 1 v (z.xs.length + m) (nums .u64 (List.replicate (z.xs.length + m) (100 + (j : Int))))
  gr : W.grownBy W' z.v.ownBlock
  old : Full W' j z.v z.xs.length
  typ : ∀ g, z.v.ownBlock = some g → ∃ cs, W'.heap[g]? = some (.cells cs 22 (0, 0))
  at_ : v.ownBlock = z.v.ownBlock ∨ ∃ g, v.ownBlock = some g ∧ W.heap.size ≤ g
  lt : ∀ g, z.v.ownBlock = some g → g < W.heap.size
  be : Below w0.heap.size w0 W'
theorem Growing.start (h : Grow w0 W b gv wv Z mv M) (hz : Z[M.length]? = some z) : Growing w0 W W M.length z z.v 0 := by
  have ho := h.own _ z (Nat.le_refl _) hz
  exact ⟨ho, ⟨rfl, rfl, rfl, Nat.le_refl _, fun _ _ _ => rfl⟩, h.got _ z hz, fun g hg => own_typed ho g hg, .inl rfl, fun g hg => own_lt ho g hg, h.base.be⟩
theorem rep_snoc (n : Nat) (a : Int) : nums .u64 (List.replicate n a) ++ [.int .u64 a] = nums .u64 (List.replicate (n + 1) a) := by rw [List.replicate_succ', nums_append]; rfl
theorem Growing.step {j m g cap : Nat} {v : Value} {x : Int} (h : Growing w0 W W' j z v m) (hx : (j : Int) = x)
    (ho : W1.ownsRow w0.heap.size 22 1 (.slice (some ⟨g, 0, none⟩) (z.xs.length + m + 1) cap) (z.xs.length + m + 1) (nums .u64 (List.replicate (z.xs.length + m) (100 + (j : Int))) ++ [.int .u64 (100 + x)]))
    (hg : (v.ownBlock = some g ∧ W'.grownBy W1 (some g)) ∨ (W'.heap.size ≤ g ∧ W'.grownBy W1 none)) : Growing w0 W W1 j z (.slice (some ⟨g, 0, none⟩) (z.xs.length + m + 1) cap) (m + 1) := by
  subst hx
  rw [rep_snoc] at ho
  have hs := h.gr.size
  rcases hg with ⟨hv, hg⟩ | ⟨hv, hg⟩
  · have hbe : Below w0.heap.size w0 W1 := h.be.grown hg h.be.size (fun k hk => by cases hk; exact own_base h.own g hv)
    rcases h.at_ with a | ⟨g', a, hge⟩
    · rw [hv] at a
      refine ⟨ho, ?_, ?_, ?_, .inl a, h.lt, hbe⟩
      · exact World.grownBy.trans h.gr (by rw [← a]; exact hg)
      · intro k hk
        refine ⟨g, a.symm, ?_⟩
        obtain ⟨g2, e2, hc⟩ := Full.of_own ho k (by omega)
        cases e2
        exact hc
      · intro g2 hg2
        rw [← a] at hg2
        cases hg2
        exact own_typed ho g rfl
    · rw [hv] at a
      cases a
      have ne : z.v.ownBlock ≠ some g := fun e => by have := h.lt g e; omega
      refine ⟨ho, ?_, h.old.keep hg (.inr ne), ?_, .inr ⟨g, rfl, hge⟩, h.lt, hbe⟩
      · exact ⟨hg.os.trans h.gr.os, hg.tape.trans h.gr.tape, hg.output.trans h.gr.output, Nat.le_trans hs hg.size, fun k hk hne => (hg.block k (by omega) (fun e => by cases e; omega)).trans (h.gr.block k hk hne)⟩
      · intro g2 hg2
        obtain ⟨cs, hc⟩ := h.typ g2 hg2
        exact ⟨cs, (hg.block g2 (by have := h.lt g2 hg2; omega) (fun e => ne (hg2.trans e))).trans hc⟩
  · have hbe : Below w0.heap.size w0 W1 := h.be.grown hg h.be.size (fun k hk => by cases hk)
    refine ⟨ho, World.grownBy.trans h.gr (gby_none hg), h.old.keep hg (by cases z.v.ownBlock <;> simp), ?_, .inr ⟨g, rfl, by omega⟩, h.lt, hbe⟩
    intro g2 hg2
    obtain ⟨cs, hc⟩ := h.typ g2 hg2
    exact ⟨cs, (hg.block g2 (by have := h.lt g2 hg2; omega) (by simp)).trans hc⟩
theorem Growing.rm {j m : Nat} {v : Value} (h : Grow w0 W b gv wv Z mv M) (hz : Z[M.length]? = some z) (hG : Growing w0 W W' j z v m) : (Kd.raw 1).R 29 W' w0.heap.size (fun _ => True) mv (M.map fun v => [v]) := by
  have ho := own_block (h.own _ z (Nat.le_refl _) hz)
  cases hrow : z.v.ownBlock with
  | none => have := hG.gr; rw [hrow] at this; exact Kd.R_grown h.rm this (fun _ _ => by simp)
  | some g =>
    obtain ⟨_, cs, hc⟩ := ho g hrow
    have := hG.gr; rw [hrow] at this
    exact Kd.R_mono (Kd.R_grown (Kd.R_types h.rm hc (by intro q hq; simp [Kd.raw] at hq; subst hq; decide)) this (fun k hk e => hk.2 (Option.some.inj e))) (fun _ _ => trivial)
theorem apart2 (hA : Apart Z) {i j : Nat} {x y : Ans} (hne : i ≠ j) (hx : Z[i]? = some x) (hy : Z[j]? = some y) : x.v.ownBlock = none ∨ x.v.ownBlock ≠ y.v.ownBlock := by
  rcases Nat.lt_or_gt_of_ne hne with h | h
  · exact hA i j x y h hx hy
  · rcases hA j i y x h hy hx with a | a
    · cases hxo : x.v.ownBlock with
      | none => exact .inl rfl
      | some g => right; rw [a]; simp
    · exact .inr fun e => a e.symm
theorem MoreIs.on {j n : Nat} {v : Value} (h : MoreIs w0 W Z j v n) {row : Option Nat} (hg : W.grownBy W' row) (hne : v.ownBlock ≠ row) : MoreIs w0 W' Z j v n := by
  obtain ⟨g, c, cs, e, hc, hh⟩ := h.at_
  refine ⟨⟨g, c, cs, e, hc, blk_grown hh hg ?_⟩, h.full.keep hg (.inr hne), h.far⟩
  rw [e] at hne
  exact hne
theorem Grow.next {v : Value} {W1 : World} {mv1 : Value} (h : Grow w0 W b gv wv Z mv M) (hz : Z[M.length]? = some z) (hG : Growing w0 W W' M.length z v 70)
    (hr : (Kd.raw 1).R 29 W1 w0.heap.size (fun _ => True) mv1 ((M.map fun v => [v]) ++ [[v]])) (hg : W'.grownBy W1 mv.ownBlock) : Grow w0 W1 b gv wv Z mv1 (M ++ [v]) := by
  have hm := hG.rm h hz
  have ob := own_block (h.own _ z (Nat.le_refl _) hz)
  have hbase := (h.base.grown hG.gr ob).grownT 29 (by decide) (by decide) hg (fun g hg => by
    obtain ⟨_, inner, ho, _⟩ := hm
    exact own_block ho g hg)
  -- a block of words is not the one of more
  have ne : ∀ g cs, W'.heap[g]? = some (.cells cs 22 (0, 0)) → some g ≠ mv.ownBlock := fun g cs hc => Kd.R_ne hm hc (by decide)
  have hsz := hG.gr.size
  -- what was typed words in W and is not z's block stays in W'
  have typ' : ∀ (j : Nat) y g, Z[j]? = some y → y.v.ownBlock = some g → ∃ cs, W'.heap[g]? = some (.cells cs 22 (0, 0)) := by
    intro j y g hy hyg
    by_cases hj : j = M.length
    · subst hj; rw [hz] at hy; cases hy; exact hG.typ g hyg
    · obtain ⟨cs, hc⟩ := h.gtyp j y g hy hyg
      refine ⟨cs, blk_grown hc hG.gr ?_⟩
      rcases apart2 h.base.apart hj hy hz with a | a
      · rw [a] at hyg; cases hyg
      · rw [hyg] at a; exact a
  have neZ : ∀ (j : Nat) y, Z[j]? = some y → y.v.ownBlock = none ∨ y.v.ownBlock ≠ mv.ownBlock := by
    intro j y hy
    cases hyg : y.v.ownBlock with
    | none => exact .inl rfl
    | some g =>
      obtain ⟨cs, hc⟩ := typ' j y g hy hyg
      exact .inr (ne g cs hc)
  have more1 : MoreIs w0 W' Z M.length v z.xs.length := by
    obtain ⟨g, c, rfl, _, hlt⟩ := hG.own.form (by omega)
    obtain ⟨cs, hc⟩ := own_typed hG.own g rfl
    refine ⟨⟨g, c, cs, rfl, own_le hG.own, hc⟩, Full.of_own hG.own, ?_⟩
    intro l y hl hy
    rcases hG.at_ with a | ⟨g', a, hge⟩
    · rw [a]; exact apart2 h.base.apart (by omega) hy hz
    · cases a
      right
      intro e
      have h1 := own_lt (h.own l y (by omega) hy) g e
      have h2 : W.heap.size ≤ g := hge
      omega
  refine ⟨hbase, by rw [List.map_append]; exact hr, ?_, ?_, ?_, ?_⟩
  · intro j y hy
    by_cases hj : j = M.length
    · subst hj; rw [hz] at hy; cases hy; exact hG.old.keep hg (neZ _ _ hz)
    · exact ((h.got j y hy).keep hG.gr (apart2 h.base.apart hj hy hz)).keep hg (neZ j y hy)
  · intro j y hj hy
    rw [List.length_append, List.length_singleton] at hj
    exact own_other (own_other (h.own j y (by omega) hy) hG.gr (apart2 h.base.apart (by omega) hy hz)) hg (neZ j y hy)
  · intro j y g hy hyg
    obtain ⟨cs, hc⟩ := typ' j y g hy hyg
    exact ⟨cs, blk_grown hc hg (ne g cs hc)⟩
  · intro j u y hu hy
    have fin : ∀ u n, MoreIs w0 W' Z j u n → MoreIs w0 W1 Z j u n := fun u n hM => hM.on hg (by
      obtain ⟨g, c, cs, rfl, _, hh⟩ := hM.at_
      exact ne g cs hh)
    rcases Nat.lt_or_ge j M.length with hj | hj
    · rw [List.getElem?_append_left hj] at hu
      have hM := h.more j u y hu hy
      refine fin u _ (hM.on hG.gr ?_)
      rcases hM.far M.length z hj hz with a | a
      · rw [a]
        obtain ⟨g, c, cs, rfl, _, _⟩ := hM.at_
        simp [Value.ownBlock]
      · exact fun e => a e.symm
    · rw [List.getElem?_append_right hj] at hu
      have hj0 : j - M.length = 0 := by
        have := (List.getElem?_eq_some_iff.1 hu).1
        simp at this; omega
      rw [hj0] at hu
      obtain rfl : v = u := by simpa using hu
      obtain rfl : j = M.length := by omega
      rw [hz] at hy
      cases hy
      exact fin v _ more1
end
end Go.Proofs.Ytlghmadoogblcaa.Book
