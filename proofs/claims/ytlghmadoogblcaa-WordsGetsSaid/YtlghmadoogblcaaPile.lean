/- What lies in memory while a statement of layer 2 runs: the book, the answers' rows, the boxes of struct variables, the rows lent, lists of bits. -/
import Derived.Test.YtlghmadoogblcaaStands
import Derived.Test.YtlghmadoogblcaaLent
namespace Go.Proofs.Ytlghmadoogblcaa.Pile
open Go Go.RowKit Go.Proofs.YtlghmadoogblcaaW.PrintWords Go.Proofs.YtlghmadoogblcaaW.PrintLast Go.Proofs.YtlghmadoogblcaaW.PrintMore Go.Proofs.Ytlghmadoogblcaa.PS Go.Proofs.Ytlghmadoogblcaa.Bx Go.Proofs.Ytlghmadoogblcaa.Book Go.Proofs.Ytlghmadoogblcaa.Lent
set_option linter.unusedVariables false
set_option linter.unusedSimpArgs false
/-- A mark of how far a walk has come. -/
structure At (n : Nat) : Prop where mk ::
theorem same_loop (n : Int) (xs : List Int) (hl : xs.length ≤ 9223372036854775806) : ∀ (j : Nat) (k : Nat) (x : Int), 0 ≤ x → (x + j = xs.length) → j < k → vivariumref02_Same.l0 k x n xs n xs = some true := by
  intro j
  induction j with
  | zero =>
    intro k x h0 hx hk
    obtain ⟨k, rfl⟩ : ∃ q, k = q + 1 := ⟨k - 1, by omega⟩
    unfold vivariumref02_Same.l0
    rw [if_neg (by omega)]
  | succ j ih =>
    intro k x h0 hx hk
    obtain ⟨k, rfl⟩ : ∃ q, k = q + 1 := ⟨k - 1, by omega⟩
    unfold vivariumref02_Same.l0
    rw [if_pos (by omega), if_pos h0, if_pos (by omega), if_pos rfl]
    have hw : wrap64 (x + 1) = x + 1 := by unfold wrap64; omega
    rw [hw]
    exact ih k (x + 1) (by omega) (by omega) (by omega)
theorem same_self (k : Nat) (n : Int) (xs : List Int) (hl : xs.length ≤ 9223372036854775806) (hk : xs.length + 1 < k) : vivariumref02_Same.f k n xs n xs = some true := by
  obtain ⟨k, rfl⟩ : ∃ q, k = q + 1 := ⟨k - 1, by omega⟩
  unfold vivariumref02_Same.f
  rw [if_pos rfl]
  rw [show ((xs.length : Int) != (xs.length : Int)) = false from by simp]
  rw [vivariumref02_Same.j0, if_neg (by decide)]
  exact same_loop n xs hl xs.length k 0 (by omega) (by omega) (by omega)
structure Pile0 (w W : World) (T : List (Nat × List Value)) (L : List (Nat × Nat × List Int)) (B : List (Value × List Bool)) : Prop where
  be : Below w.heap.size w W
  box : ∀ p ∈ T, W.heap[p.1]? = some (.cells p.2.toArray 31 (0, 0))
  lent : ∀ (j : Nat) l, L[j]? = some l → LentIs w.heap.size W l.1 l.2.1 l.2.2
  lap : ∀ (i j : Nat) l m, i ≠ j → L[i]? = some l → L[j]? = some m → l.1 ≠ m.1
  bit : ∀ (j : Nat) p, B[j]? = some p → W.ownsRow w.heap.size 4 1 p.1 p.2.length (bools p.2)
section
variable {w W W' : World} {T : List (Nat × List Value)} {L : List (Nat × Nat × List Int)} {B : List (Value × List Bool)} {cs : List Value}
theorem get_snoc {α : Type} {l : List α} {a x : α} {j : Nat} (h : (l ++ [a])[j]? = some x) : l[j]? = some x ∨ (j = l.length ∧ x = a) := by
  rcases Nat.lt_or_ge j l.length with hj | hj
  · rw [List.getElem?_append_left hj] at h; exact .inl h
  · rw [List.getElem?_append_right hj] at h
    have h0 : j - l.length = 0 := by
      have := (List.getElem?_eq_some_iff.1 h).1
      simp at this; omega
    rw [h0] at h
    exact .inr ⟨by omega, by simpa using h.symm⟩
theorem Pile0.start (w : World) : Pile0 w w [] [] [] := ⟨Below.refl _ _, fun p hp => by simp at hp, fun j l h => by simp at h, fun i j l m _ h => by simp at h, fun j p h => by simp at h⟩
theorem Pile0.on (h : Pile0 w W T L B) (hb : Below W.heap.size W W') : Pile0 w W' T L B :=
  ⟨below_then h.be h.be.size hb, fun p hp => blk_below (h.box p hp) hb, fun j l hl => (h.lent j l hl).on hb, h.lap, fun j p hp => pw_own_below (h.bit j p hp) hb⟩
theorem Pile0.push (h : Pile0 w W T L B) (cs : List Value) (a : Nat) (ha : a = W.heap.size) : Pile0 w (W.alloc (.cells cs.toArray 31)) (T ++ [(a, cs)]) L B := by
  have h' := h.on (below_alloc (Below.refl _ _) (.cells cs.toArray 31))
  refine ⟨h'.be, fun p hp => ?_, h'.lent, h'.lap, h'.bit⟩
  rcases List.mem_append.1 hp with hp | hp
  · exact h'.box p hp
  · simp at hp
    subst hp
    subst ha
    exact blk_new W _
theorem Pile0.lend {g c : Nat} {xs : List Int} (h : Pile0 w W T L B) (hb : Below W.heap.size W W') (hl : LentIs W.heap.size W' g c xs) : Pile0 w W' T (L ++ [(g, c, xs)]) B := by
  have h' := h.on hb
  have old : ∀ (j : Nat) l, L[j]? = some l → l.1 < W.heap.size := fun j l hj => own_lt (h.lent j l hj) l.1 rfl
  have new : W.heap.size ≤ g := own_base hl g rfl
  refine ⟨h'.be, h'.box, fun j l hj => ?_, fun i j l m hne hi hj => ?_, h'.bit⟩
  · rcases get_snoc hj with hj | ⟨_, rfl⟩
    · exact h'.lent j l hj
    · exact hl.lower h.be.size
  · rcases get_snoc hi with hi | ⟨hi, rfl⟩
    · rcases get_snoc hj with hj | ⟨hj, rfl⟩
      · exact h.lap i j l m hne hi hj
      · have := old i l hi; show l.1 ≠ g; omega
    · rcases get_snoc hj with hj | ⟨hj, rfl⟩
      · have := old j m hj; show g ≠ m.1; omega
      · omega
theorem Pile0.cell (h : Pile0 w W T L B) {t : Nat} (ht : (t, cs) ∈ T) (j : Nat) (v : Value) (e : cs[j]? = some v) : W.cell? ⟨t, j, none⟩ = some v :=
  (blk_cell (h.box _ ht) j).trans (by simpa using e)
theorem Pile0.at_ (h : Pile0 w W T L B) {i t : Nat} (hi : T[i]? = some (t, cs)) : t < W.heap.size ∧ ∀ (j : Nat) (v : Value), cs[j]? = some v → W.cell? ⟨t, j, none⟩ = some v :=
  ⟨blk_lt (h.box _ (List.mem_of_getElem? hi)), fun j v e => h.cell (List.mem_of_getElem? hi) j v e⟩
theorem Pile0.C {j g c : Nat} {xs : List Int} (h : Pile0 w W T L B) (hj : L[j]? = some (g, c, xs)) : Kd.C (Kd.int .u64) W (some ⟨g, 0, none⟩) xs.length xs := (h.lent j _ hj).C
theorem Pile0.cap {j g c : Nat} {xs : List Int} (h : Pile0 w W T L B) (hj : L[j]? = some (g, c, xs)) : xs.length ≤ c := by have := (h.lent j _ hj).cap; show xs.length ≤ c; simp at this; omega
end
structure Pile (w W : World) (b : Nat) (gv wv : Value) (Z : List Ans) (ix : List Nat) (R : List (Value × List Int)) (T : List (Nat × List Value)) (L : List (Nat × Nat × List Int)) (B : List (Value × List Bool)) : Prop where
  p0 : Pile0 w W T L B
  book : BookIs w W b gv wv (gots Z) (wants Z)
  own : ∀ (j : Nat) p, R[j]? = some p → Own w W p.1 p.2
  ap : ∀ (i j : Nat) p q, i ≠ j → R[i]? = some p → R[j]? = some q → p.1.ownBlock = none ∨ p.1.ownBlock ≠ q.1.ownBlock
  bx : ∀ p ∈ T, p.1 ≠ b ∧ some p.1 ≠ gv.ownBlock ∧ some p.1 ≠ wv.ownBlock
  la : ∀ (i j : Nat) l p, L[i]? = some l → R[j]? = some p → p.1.ownBlock ≠ some l.1
  zr : ∀ (j : Nat) z, Z[j]? = some z → (∃ i : Nat, ix[j]? = some i ∧ R[i]? = some (z.v, z.xs)) ∧ (∃ i : Nat, R[i]? = some (z.u, z.xs)) ∧ z.xs.length ≤ 2000000
section
variable {w W W' : World} {b : Nat} {gv wv : Value} {Z : List Ans} {ix : List Nat} {R : List (Value × List Int)} {T : List (Nat × List Value)} {L : List (Nat × Nat × List Int)} {B : List (Value × List Bool)} {cs : List Value}
theorem Pile.on (h : Pile w W b gv wv Z ix R T L B) (hb : Below W.heap.size W W') : Pile w W' b gv wv Z ix R T L B :=
  ⟨h.p0.on hb, h.book.on hb, fun j p hp => pw_own_below (h.own j p hp) hb, h.ap, h.bx, h.la, h.zr⟩
theorem raw_lt {ok : Nat → Prop} {base : Nat} {v : Value} {X : List (List Value)} (h : (Kd.raw 2).R 31 W base ok v X) (k : Nat) (hk : v.ownBlock = some k) : k < W.heap.size := (Kd.R_bound h).1 k hk |>.2.2.1
theorem Pile.push (h : Pile w W b gv wv Z ix R T L B) (cs : List Value) (a : Nat) (ha : a = W.heap.size) : Pile w (W.alloc (.cells cs.toArray 31)) b gv wv Z ix R (T ++ [(a, cs)]) L B := by
  have h' := h.on (below_alloc (Below.refl _ _) (.cells cs.toArray 31))
  refine ⟨h.p0.push cs a ha, h'.book, h'.own, h.ap, fun p hp => ?_, h.la, h.zr⟩
  rcases List.mem_append.1 hp with hp | hp
  · exact h.bx p hp
  · simp at hp
    subst hp
    subst ha
    refine ⟨fun e => ?_, fun e => ?_, fun e => ?_⟩
    · have := blk_lt h.book.hb; simp at e; omega
    · have := raw_lt h.book.rg _ e.symm; simp at this
    · have := raw_lt h.book.rh _ e.symm; simp at this
/-- The book is laid. -/
theorem Pile.make (h : Pile0 w W T L B) (a : Nat) (ha : a = W.heap.size) : Pile w (W.alloc (.cells #[.slice none 0 0, .slice none 0 0, .bool false] 40)) a (.slice none 0 0) (.slice none 0 0) [] [] [] T L B := by
  subst ha
  have h' := h.on (below_alloc (Below.refl _ _) (.cells #[.slice none 0 0, .slice none 0 0, .bool false] 40))
  refine ⟨h', ⟨blk_new W _, Kd.R_nil _ _ _ _ _, Kd.R_nil _ _ _ _ _, .inl rfl, h'.be, h.be.size⟩, fun j p hp => by simp at hp, fun i j p q _ hp => by simp at hp, fun p hp => ⟨?_, by simp [Value.ownBlock], by simp [Value.ownBlock]⟩, fun i j l p _ hp => by simp at hp, fun j z hz => by simp at hz⟩
  have := blk_lt (h.box p hp)
  omega
/-- A call has told a row. -/
theorem Pile.told {v : Value} {xs : List Int} (h : Pile w W b gv wv Z ix R T L B) (hb : Below W.heap.size W W') (hR : Kd.R (Kd.int .u64) 22 W' W.heap.size (fun _ => True) v xs) : Pile w W' b gv wv Z ix (R ++ [(v, xs)]) T L B := by
  have h' := h.on hb
  have ho : W'.ownsRow W.heap.size 22 1 v xs.length (nums .u64 xs) := Kd.own_of_R hR
  have new : ∀ k, v.ownBlock = some k → W.heap.size ≤ k := fun k hk => own_base ho k hk
  have old : ∀ (j : Nat) p k, R[j]? = some p → p.1.ownBlock = some k → k < W.heap.size := fun j p k hj hk => own_lt (h.own j p hj) k hk
  refine ⟨h'.p0, h'.book, fun j p hj => ?_, fun i j p q hne hi hj => ?_, h.bx, fun i j l p hi hj => ?_, fun j z hz => ?_⟩
  · rcases get_snoc hj with hj | ⟨_, rfl⟩
    · exact h'.own j p hj
    · exact own_weaken ho h.p0.be.size
  · rcases get_snoc hi with hi | ⟨hi, rfl⟩
    · rcases get_snoc hj with hj | ⟨hj, rfl⟩
      · exact h.ap i j p q hne hi hj
      · cases hp : p.1.ownBlock with
        | none => exact .inl rfl
        | some k =>
          right
          intro e
          have := old i p k hi hp
          have := new k e.symm
          omega
    · rcases get_snoc hj with hj | ⟨hj, rfl⟩
      · cases hp : v.ownBlock with
        | none => exact .inl rfl
        | some k =>
          right
          intro e
          have := old j q k hj e.symm
          have := new k hp
          omega
      · omega
  · rcases get_snoc hj with hj | ⟨_, rfl⟩
    · exact h.la i j l p hi hj
    · intro e
      have h1 : l.1 < W.heap.size := own_lt (h.p0.lent i l hi) l.1 rfl
      have := new _ e
      omega
  · obtain ⟨⟨i, hi, hr⟩, ⟨i2, hr2⟩, hl⟩ := h.zr j z hz
    exact ⟨⟨i, hi, by rw [List.getElem?_append_left (List.getElem?_eq_some_iff.1 hr).1]; exact hr⟩, ⟨i2, by rw [List.getElem?_append_left (List.getElem?_eq_some_iff.1 hr2).1]; exact hr2⟩, hl⟩
theorem Pile.lend {g c : Nat} {xs : List Int} (h : Pile w W b gv wv Z ix R T L B) (hb : Below W.heap.size W W') (hl : LentIs W.heap.size W' g c xs) : Pile w W' b gv wv Z ix R T (L ++ [(g, c, xs)]) B := by
  have h' := h.on hb
  refine ⟨h.p0.lend hb hl, h'.book, h'.own, h.ap, h.bx, fun i j l p hi hj => ?_, h.zr⟩
  rcases get_snoc hi with hi | ⟨_, rfl⟩
  · exact h.la i j l p hi hj
  · intro e
    have h1 := own_lt (h.own j p hj) _ e
    have h2 : W.heap.size ≤ g := own_base hl g rfl
    omega
theorem Still.own {w W : World} {b : Nat} {gv0 wv0 gv wv v : Value} {base n : Nat} {e : TypeId} {xs : List Value} (h : Still b gv0 wv0 w W gv wv) (ho : w.ownsRow base e 1 v n xs)
    (hb : ∀ k, v.ownBlock = some k → k ≠ b ∧ some k ≠ gv0.ownBlock ∧ some k ≠ wv0.ownBlock) : W.ownsRow base e 1 v n xs := by
  refine own_move ho (fun k hk => ?_)
  obtain ⟨cs, hc⟩ := own_typed ho k hk
  obtain ⟨h1, h2, h3⟩ := hb k hk
  rw [hc]
  exact h.far k _ hc h1 h2 h3
theorem BookIs.ne {G H : List (List Value)} (h : BookIs w W b gv wv G H) {v : Value} {base n : Nat} {e : TypeId} {xs : List Value} (ho : W.ownsRow base e 1 v n xs) (h1 : 40 ≠ e) (h2 : 31 ≠ e) :
    ∀ k, v.ownBlock = some k → k ≠ b ∧ some k ≠ gv.ownBlock ∧ some k ≠ wv.ownBlock := by
  intro k hk
  obtain ⟨cs, hc⟩ := own_typed ho k hk
  refine ⟨?_, Kd.R_ne h.rg hc h2, Kd.R_ne h.rh hc h2⟩
  rintro rfl
  rw [h.hb] at hc
  injection hc with hc
  injection hc with _ hc
  exact h1 hc
/-- An answer is laid in. -/
theorem Pile.adds (k : Nat) (h : Pile w W b gv wv Z ix R T L B) (i j : Nat) (n er : Int) (A A' : Option Addr) (c c' : Nat) (xs : List Int) (hi : R[i]? = some (.slice A xs.length c, xs)) (hj : R[j]? = some (.slice A' xs.length c', xs))
    (hx : ix.length = Z.length) (hZ : Z.length ≤ 1000) (hl : xs.length ≤ 2000000) (hk : xs.length + 1 < k) :
    Calls Try.prog 20 #[.pointer (some ⟨b, 0, none⟩), .agg #[.int .i64 n, .slice A xs.length c], .int .i64 er, .agg #[.int .i64 n, .slice A' xs.length c'], .int .i64 er] W
      fun e W' => e = .returned (.tuple #[]) ∧ ∃ gv' wv', Pile w W' b gv' wv' (Z ++ [⟨n, .slice A xs.length c, .slice A' xs.length c', xs⟩]) (ix ++ [i]) R T L B := by
  obtain ⟨A1, c1, e1, l1, C1⟩ := own_C_ (h.own i _ hi)
  obtain ⟨A2, c2, e2, l2, C2⟩ := own_C_ (h.own j _ hj)
  simp only at e1 e2 l1 l2 C1 C2
  cases e1
  cases e2
  refine (Book.adds k w W b gv wv (gots Z) (wants Z) n er A A' c c' xs h.book (by simp [gots, wants]; omega) C1 l1 C2 l2 (same_self k n xs (by omega) hk)).mono ?_
  rintro e W' ⟨rfl, gv', wv', hB, hS⟩
  have far : ∀ {v : Value} {base n : Nat} {e : TypeId} {ys : List Value}, W.ownsRow base e 1 v n ys → 40 ≠ e → 31 ≠ e → W'.ownsRow base e 1 v n ys := fun ho h1 h2 => Still.own hS ho (BookIs.ne h.book ho h1 h2)
  refine ⟨rfl, gv', wv', ⟨hB.be, fun p hp => ?_, fun q l hq => far (h.p0.lent q l hq) (by decide) (by decide), h.p0.lap, fun q p hq => far (h.p0.bit q p hq) (by decide) (by decide)⟩, by simpa [gots, wants] using hB, fun q p hq => far (h.own q p hq) (by decide) (by decide), h.ap, fun p hp => ?_, h.la, fun q z hz => ?_⟩
  · obtain ⟨b1, b2, b3⟩ := h.bx p hp
    exact hS.far _ _ (h.p0.box p hp) b1 b2 b3
  · obtain ⟨b1, b2, b3⟩ := h.bx p hp
    have hlt := blk_lt (h.p0.box p hp)
    refine ⟨b1, ?_, ?_⟩
    · rcases hS.ga with a | ⟨q, a, hq⟩
      · rw [a]; exact b2
      · rw [a]; intro e; cases e; omega
    · rcases hS.wa with a | ⟨q, a, hq⟩
      · rw [a]; exact b3
      · rw [a]; intro e; cases e; omega
  · rcases get_snoc hz with hz | ⟨hq, rfl⟩
    · obtain ⟨⟨p, hp, hr⟩, hr2⟩ := h.zr q z hz
      exact ⟨⟨p, by rw [List.getElem?_append_left (List.getElem?_eq_some_iff.1 hp).1]; exact hp, hr⟩, hr2⟩
    · exact ⟨⟨i, by rw [hq, ← hx, List.getElem?_append_right (Nat.le_refl _), Nat.sub_self]; rfl, hi⟩, ⟨j, hj⟩, hl⟩
theorem BookIs.grown {G H : List (List Value)} (h : BookIs w W b gv wv G H) {g : Nat} {cs : Array Value} (hg : W.grownBy W' (some g)) (hc : W.heap[g]? = some (.cells cs 22 (0, 0))) (hw : w.heap.size ≤ g) : BookIs w W' b gv wv G H := by
  have nb : b ≠ g := by
    rintro rfl
    rw [h.hb] at hc
    injection hc with hc
    injection hc with _ hc
    exact absurd hc (by decide)
  have f : ∀ {v : Value} {X : List (List Value)}, (Kd.raw 2).R 31 W w.heap.size (fun _ => True) v X → (Kd.raw 2).R 31 W' w.heap.size (fun _ => True) v X := fun hR =>
    Kd.R_mono (Kd.R_grown (Kd.R_types hR hc (by intro q hq; simp [Kd.raw] at hq; subst hq; decide)) hg (fun k hk e => hk.2 (Option.some.inj e))) (fun _ _ => trivial)
  exact ⟨blk_grown h.hb hg (fun e => nb (Option.some.inj e)), f h.rg, f h.rh, h.ap, h.be.grown hg h.be.size (fun k hk => by cases hk; exact hw), h.ge⟩
/-- A row that was lent has been written over. -/
theorem Pile.wiped {i g c : Nat} {xs ys : List Int} (h : Pile w W b gv wv Z ix R T L B) (hi : L[i]? = some (g, c, xs)) (hg : W.grownBy W' (some g)) (hl : LentIs w.heap.size W' g c ys) : Pile w W' b gv wv Z ix R T (L.set i (g, c, ys)) B := by
  have ob := own_block (h.p0.lent i _ hi) g rfl
  obtain ⟨hw, cs, hc⟩ := ob
  have hil := (List.getElem?_eq_some_iff.1 hi).1
  have get : ∀ (j : Nat) l, (L.set i (g, c, ys))[j]? = some l → (j = i ∧ l = (g, c, ys)) ∨ (j ≠ i ∧ L[j]? = some l) := by
    intro j l hj
    rw [List.getElem?_set] at hj
    by_cases e : i = j
    · rw [if_pos e, if_pos hil] at hj
      exact .inl ⟨e.symm, (Option.some.inj hj).symm⟩
    · rw [if_neg e] at hj
      exact .inr ⟨fun x => e x.symm, hj⟩
  have lg : ∀ (j : Nat) l, (L.set i (g, c, ys))[j]? = some l → ∃ l', L[j]? = some l' ∧ l'.1 = l.1 := by
    intro j l hj
    rcases get j l hj with ⟨rfl, rfl⟩ | ⟨_, hj⟩
    · exact ⟨_, hi, rfl⟩
    · exact ⟨l, hj, rfl⟩
  refine ⟨⟨h.p0.be.grown hg h.p0.be.size (fun k hk => by cases hk; exact hw), fun p hp => blk_grown (h.p0.box p hp) hg ?_, fun j l hj => ?_, fun p q l m hne hp hq => ?_, fun q p hq => own_other (h.p0.bit q p hq) hg ?_⟩, BookIs.grown h.book hg hc hw, fun q p hq => own_other (h.own q p hq) hg (.inr (h.la i q _ p hi hq)), h.ap, h.bx, fun p q l r hp hq => ?_, h.zr⟩
  · intro e
    have e := Option.some.inj e
    have h1 := h.p0.box p hp
    rw [e, hc] at h1
    injection h1 with h1
    injection h1 with _ h1
    exact absurd h1 (by decide)
  · rcases get j l hj with ⟨rfl, rfl⟩ | ⟨hne, hj⟩
    · exact hl
    · exact own_other (h.p0.lent j l hj) hg (.inr (fun e => h.p0.lap j i l _ hne hj hi (Option.some.inj e)))
  · obtain ⟨l', hl', e1⟩ := lg p l hp
    obtain ⟨m', hm', e2⟩ := lg q m hq
    rw [← e1, ← e2]
    exact h.p0.lap p q l' m' hne hl' hm'
  · cases hp : p.1.ownBlock with
    | none => exact .inl rfl
    | some k =>
      right
      intro e
      cases e
      obtain ⟨cs', hc'⟩ := own_typed (h.p0.bit q p hq) g hp
      rw [hc] at hc'
      injection hc' with hc'
      injection hc' with _ hc'
      exact absurd hc' (by decide)
  · obtain ⟨l', hl', e1⟩ := lg p l hp
    rw [← e1]
    exact h.la p q l' r hl' hq
/-- The book stands. -/
theorem Pile.stack (h : Pile w W b gv wv Z ix R T L B) (hn : ix.Nodup) : Stack w W b gv wv Z := by
  refine ⟨h.book, fun j z hz => ?_, fun j z hz => ?_, fun i j x y hij hx hy => ?_⟩
  · obtain ⟨⟨i, _, hr⟩, _⟩ := h.zr j z hz
    exact h.own i _ hr
  · obtain ⟨_, ⟨i, hr⟩, _⟩ := h.zr j z hz
    exact h.own i _ hr
  · obtain ⟨⟨p, hp, hr⟩, _⟩ := h.zr i x hx
    obtain ⟨⟨q, hq, hr2⟩, _⟩ := h.zr j y hy
    refine h.ap p q _ _ (fun e => ?_) hr hr2
    subst e
    obtain ⟨h1, e1⟩ := List.getElem?_eq_some_iff.1 hp
    obtain ⟨h2, e2⟩ := List.getElem?_eq_some_iff.1 hq
    exact absurd (e1.trans e2.symm) (List.pairwise_iff_getElem.1 hn i j h1 h2 hij)
theorem Pile.stands (k : Nat) (h : Pile w W b gv wv Z ix R T L B) (hn : ix.Nodup) (hZ : Z.length ≤ 1000) (hk : 2000001 < k) :
    Calls Try.prog 23 #[.pointer (some ⟨b, 0, none⟩)] W fun e W' => e = .returned (.bool true) ∧ Below w.heap.size w W' :=
  Book.stands k w W b gv wv Z (h.stack hn) (fun j z hz => same_self k _ _ (by have := (h.zr j z hz).2.2; omega) (by have := (h.zr j z hz).2.2; omega)) hZ (fun j z hz => (h.zr j z hz).2.2)
end
end Go.Proofs.Ytlghmadoogblcaa.Pile
