/- The machine side of WordsNames. -/
import Derived.Test.YtlghmadoogblcaaOfPlain
import Derived.Test.YtlghmadoogblcaaAlive
import Derived.Test.YtlghmadoogblcaaBx
namespace Go.Proofs.Ytlghmadoogblcaa.NamesWalk
open Go Go.RowKit Go.Proofs.Ytlghmadoogblcaa.PW Go.Proofs.YtlghmadoogblcaaW.PrintWords Go.Proofs.Ytlghmadoogblcaa.Rowp Go.Proofs.Ytlghmadoogblcaa.Bx Go.Proofs.Ytlghmadoogblcaa.Bits
set_option linter.unusedVariables false
set_option linter.unusedSimpArgs false
theorem of_big (k : Nat) (l : List Bool) (h : l.length = 65539) : words_Of.f k l = some (0, [], 6) := by
  unfold words_Of.f
  rw [if_pos (by omega)]
theorem row_told {n m : Int} {xs : List Int} {er : Int} {f : FuncId} {args : Array Value} {W : World} {q : Nat} (hq : xs.length = q)
    (h : Calls Try.prog f args W fun e w' => ∃ v1_ : Value, e = .returned (.tuple #[.agg #[.int .i64 n, v1_], .int .i64 er]) ∧ Kd.R (Kd.int .u64) 22 w' W.heap.size (fun _ => True) v1_ xs ∧ Below W.heap.size W w') :
    Calls Try.prog f args W fun e w' => ∃ A c, e = .returned (.tuple #[.agg #[.int .i64 n, .slice A q c], .int .i64 er]) ∧ Below W.heap.size W w' := by
  refine h.mono ?_
  rintro e w' ⟨v, rfl, hR, hb⟩
  obtain ⟨A, c, rfl, _, _⟩ := Kd.R_reads hR
  subst hq
  exact ⟨A, c, rfl, hb⟩
theorem new_at (n : Nat) (h : n ≤ 65538) (W : World) : Calls Try.prog 17 #[.int .i64 (n : Int)] W fun e w' => ∃ A c, e = .returned (.tuple #[.agg #[.int .i64 (n : Int), .slice A (nw n) c], .int .i64 0]) ∧ Below W.heap.size W w' := by
  have hf : words_New.f (n : Int) = some ((n : Int), List.replicate (nw n) 0, 0) := by
    unfold words_New.f
    rw [if_neg (by omega), if_neg (by omega), blank_spec _ h, Option.bind_some]
  exact row_told (m := 0) (by rw [List.length_replicate]) (words_New.calls (n : Int) _ _ _ W hf)
theorem new_bad (n : Int) (h : n < 0 ∨ n > 65538) (W : World) : Calls Try.prog 17 #[.int .i64 n] W fun e w' => ∃ A c, e = .returned (.tuple #[.agg #[.int .i64 0, .slice A 0 c], .int .i64 2]) ∧ Below W.heap.size W w' := by
  have hf : words_New.f n = some (0, [], 2) := by
    unfold words_New.f
    by_cases c : n < 0
    · rw [if_pos c]
    · rw [if_neg c, if_pos (by omega)]
  exact row_told (m := 0) rfl (words_New.calls n _ _ _ W hf)
theorem of_at (X : List Bool) (hX : X.length = 65538) (W : World) (A : Option Addr) (c : Nat) (hC : Kd.C Kd.bool W A 65538 X) (hc : 65538 ≤ c) :
    Calls Try.prog 18 #[.slice A 65538 c] W fun e w' => ∃ B d, e = .returned (.tuple #[.agg #[.int .i64 65538, .slice B 1025 d], .int .i64 0]) ∧ Below W.heap.size W w' := by
  obtain ⟨R, g, h⟩ := of_spec (l := X) (by omega) 65539 (by omega)
  rw [hX] at h
  have := words_Of.calls 65539 A c X _ _ _ W (by rw [hX]; exact hC) (by omega) h
  rw [hX] at this
  exact row_told (m := 0) (by rw [rowOf_len]; rfl) this
theorem of_bad (X : List Bool) (hX : X.length = 65539) (W : World) (A : Option Addr) (c : Nat) (hC : Kd.C Kd.bool W A 65539 X) (hc : 65539 ≤ c) :
    Calls Try.prog 18 #[.slice A 65539 c] W fun e w' => ∃ B d, e = .returned (.tuple #[.agg #[.int .i64 0, .slice B 0 d], .int .i64 6]) ∧ Below W.heap.size W w' := by
  have := words_Of.calls 1 A c X _ _ _ W (by rw [hX]; exact hC) (by omega) (of_big 1 X hX)
  rw [hX] at this
  exact row_told (m := 0) rfl this
theorem chain_ {w w1 w2 : World} (h : Below w.heap.size w w1) (k : Below w1.heap.size w1 w2) : Below w.heap.size w w2 := below_then h h.size k
set_option maxHeartbeats 4000000 in
set_option maxRecDepth 100000 in
theorem law (w : World) (k1 : ∀ W : World, Calls Try.prog 13 #[] W fun e w' => e = .returned (.bool true) ∧ Below W.heap.size W w') :
    Calls Try.prog 5 #[] w fun e w' => e = .returned (.bool true) ∧ Below w.heap.size w w' := by
  have k2 : ∀ W : World, Calls Try.prog 17 #[.int .i64 65538] W fun e w' => ∃ A c, e = .returned (.tuple #[.agg #[.int .i64 65538, .slice A 1025 c], .int .i64 0]) ∧ Below W.heap.size W w' := fun W => new_at 65538 (by omega) W
  have k3 := fun (W : World) => new_bad 65539 (by omega) W
  have k4 := fun (W : World) => new_bad (-1) (by omega) W
  have k5 : ∀ W : World, Calls Try.prog 17 #[.int .i64 0] W fun e w' => ∃ A c, e = .returned (.tuple #[.agg #[.int .i64 0, .slice A 0 c], .int .i64 0]) ∧ Below W.heap.size W w' := fun W => new_at 0 (by omega) W
  have K1 := Aside0.mk k1; have K2 := Aside0.mk k2; have K3 := Aside0.mk k3; have K4 := Aside0.mk k4; have K5 := Aside0.mk k5
  clear k1 k2 k3 k4 k5
  have hu := Try.underlying31
  have hu2 := Try.underlying35
  go_enter Try.func5, Try.ntmps5
  go_wp2_with (first
    | (go_at_call 13; with_reducible refine (K1.out _).mono ?_; rintro e v1 ⟨rfl, hb⟩; have NB := chain_ (Below.refl w.heap.size w) hb; clear hb; have HB := Aside0.mk NB; clear NB)
    | (go_at_call 17; with_reducible refine (K2.out _).mono ?_; rintro e v2 ⟨A2, c2, rfl, hb⟩; have NB := chain_ HB.out hb; clear hb; clear HB; have HB := Aside0.mk NB; clear NB)
    | (go_at_call 17; with_reducible refine (K3.out _).mono ?_; rintro e v3 ⟨A3, c3, rfl, hb⟩; have N_r := (Bx.new _ #[.int .i64 65538, .slice A2 1025 c2] 31).on hb; have NB := chain_ (below_alloc HB.out _) hb; clear hb; clear HB; have HB := Aside0.mk NB; clear NB; have B_r := Aside0.mk N_r; have q_r := N_r.lt; have x_r0 := N_r.c 0 _ rfl; have x_r1 := N_r.c 1 _ rfl; clear N_r)
    | (go_at_call 17; with_reducible refine (K4.out _).mono ?_; rintro e v4 ⟨A4, c4, rfl, hb⟩; have N_r := ((B_r.out).alloc _).on hb; have N_f := (Bx.new _ #[.int .i64 0, .slice A3 0 c3] 31).on hb; have NB := chain_ (below_alloc HB.out _) hb; clear hb; clear HB; clear B_r q_r x_r0 x_r1; have HB := Aside0.mk NB; clear NB; have B_r := Aside0.mk N_r; have q_r := N_r.lt; have x_r0 := N_r.c 0 _ rfl; have x_r1 := N_r.c 1 _ rfl; clear N_r; have B_f := Aside0.mk N_f; have q_f := N_f.lt; have x_f0 := N_f.c 0 _ rfl; have x_f1 := N_f.c 1 _ rfl; clear N_f)
    | (go_at_call 17; with_reducible refine (K5.out _).mono ?_; rintro e v5 ⟨A5, c5, rfl, hb⟩; have N_r := ((B_r.out).alloc _).on hb; have N_f := ((B_f.out).alloc _).on hb; have N_g := (Bx.new _ #[.int .i64 0, .slice A4 0 c4] 31).on hb; have NB := chain_ (below_alloc HB.out _) hb; clear hb; clear HB; clear B_r q_r x_r0 x_r1; clear B_f q_f x_f0 x_f1; have HB := Aside0.mk NB; clear NB; have B_r := Aside0.mk N_r; have q_r := N_r.lt; have x_r0 := N_r.c 0 _ rfl; have x_r1 := N_r.c 1 _ rfl; clear N_r; have B_f := Aside0.mk N_f; have q_f := N_f.lt; have x_f0 := N_f.c 0 _ rfl; have x_f1 := N_f.c 1 _ rfl; clear N_f; have B_g := Aside0.mk N_g; have q_g := N_g.lt; have x_g0 := N_g.c 0 _ rfl; have x_g1 := N_g.c 1 _ rfl; clear N_g)
    | ((with_reducible refine gate_dst (N := 32) rfl ?_); refine Kd.R_make Kd.bool _ 4 rfl (N := 32) rfl 35 _ _ rfl 65539 rfl rfl Try.underlying35 (.bool false) 1 info4 rfl (by decide) (by omega) false (ok := fun _ => True) (okp := fun _ => True) rfl (fun _ hk => hk) trivial (by omega) (by omega) (Below.refl _ _) (Nat.le_refl _) ?_; intro mv v6 hR hb hg_ hn_; clear hg_ hn_; generalize hX_ : List.replicate (65539 : Int).toNat false = X at hR; have hX : X.length = 65539 := (by rw [← hX_, List.length_replicate]; rfl); clear hX_; obtain ⟨MA, mc, rfl, ml, mC⟩ := Kd.R_reads hR; clear hR; rw [hX] at ml mC; rw [hX]; have N_r := ((B_r.out).alloc _).on hb; have N_f := ((B_f.out).alloc _).on hb; have N_g := ((B_g.out).alloc _).on hb; have N_n := (Bx.new _ #[.int .i64 0, .slice A5 0 c5] 31).on hb; have NB := chain_ (below_alloc HB.out _) hb; have MC := Aside0.mk mC; have HX := Aside0.mk hX; have ml2 : 65538 ≤ mc := (by omega); clear mC hX; clear hb; clear HB; clear B_r q_r x_r0 x_r1; clear B_f q_f x_f0 x_f1; clear B_g q_g x_g0 x_g1; have HB := Aside0.mk NB; clear NB; have B_r := Aside0.mk N_r; have q_r := N_r.lt; have x_r0 := N_r.c 0 _ rfl; have x_r1 := N_r.c 1 _ rfl; clear N_r; have B_f := Aside0.mk N_f; have q_f := N_f.lt; have x_f0 := N_f.c 0 _ rfl; have x_f1 := N_f.c 1 _ rfl; clear N_f; have B_g := Aside0.mk N_g; have q_g := N_g.lt; have x_g0 := N_g.c 0 _ rfl; have x_g1 := N_g.c 1 _ rfl; clear N_g; have B_n := Aside0.mk N_n; have q_n := N_n.lt; have x_n0 := N_n.c 0 _ rfl; have x_n1 := N_n.c 1 _ rfl; clear N_n)
    | (go_at_call 18; with_reducible refine (of_at (X.take 65538) (by rw [List.length_take, HX.out]; omega) _ MA mc (by have h_ := Kd.C_take (m := 65538) (by rw [HX.out]; exact MC.out : Kd.C Kd.bool _ MA X.length X) (by rw [HX.out]; omega); rwa [List.length_take, HX.out, show min 65538 65539 = 65538 from by omega] at h_) ml2).mono ?_; rintro e v7 ⟨A7, c7, rfl, hb⟩; have N_r := (B_r.out).on hb; have N_f := (B_f.out).on hb; have N_g := (B_g.out).on hb; have N_n := (B_n.out).on hb; have NB := chain_ HB.out hb; have NC := Aside0.mk (Kd.C_below MC.out hb); clear MC; have MC := NC; clear NC; clear hb; clear HB; clear B_r q_r x_r0 x_r1; clear B_f q_f x_f0 x_f1; clear B_g q_g x_g0 x_g1; clear B_n q_n x_n0 x_n1; have HB := Aside0.mk NB; clear NB; have B_r := Aside0.mk N_r; have q_r := N_r.lt; have x_r0 := N_r.c 0 _ rfl; have x_r1 := N_r.c 1 _ rfl; clear N_r; have B_f := Aside0.mk N_f; have q_f := N_f.lt; have x_f0 := N_f.c 0 _ rfl; have x_f1 := N_f.c 1 _ rfl; clear N_f; have B_g := Aside0.mk N_g; have q_g := N_g.lt; have x_g0 := N_g.c 0 _ rfl; have x_g1 := N_g.c 1 _ rfl; clear N_g; have B_n := Aside0.mk N_n; have q_n := N_n.lt; have x_n0 := N_n.c 0 _ rfl; have x_n1 := N_n.c 1 _ rfl; clear N_n)
    | (go_at_call 18; with_reducible refine (of_bad X HX.out _ MA mc (Kd.C_below MC.out (below_alloc (Below.refl _ _) _)) ml).mono ?_; rintro e v8 ⟨A8, c8, rfl, hb⟩; have N_r := ((B_r.out).alloc _).on hb; have N_f := ((B_f.out).alloc _).on hb; have N_g := ((B_g.out).alloc _).on hb; have N_n := ((B_n.out).alloc _).on hb; have N_o := (Bx.new _ #[.int .i64 65538, .slice A7 1025 c7] 31).on hb; have NB := chain_ (below_alloc HB.out _) hb; clear hb; clear HB; clear B_r q_r x_r0 x_r1; clear B_f q_f x_f0 x_f1; clear B_g q_g x_g0 x_g1; clear B_n q_n x_n0 x_n1; have HB := Aside0.mk NB; clear NB; have B_r := Aside0.mk N_r; have q_r := N_r.lt; have x_r0 := N_r.c 0 _ rfl; have x_r1 := N_r.c 1 _ rfl; clear N_r; have B_f := Aside0.mk N_f; have q_f := N_f.lt; have x_f0 := N_f.c 0 _ rfl; have x_f1 := N_f.c 1 _ rfl; clear N_f; have B_g := Aside0.mk N_g; have q_g := N_g.lt; have x_g0 := N_g.c 0 _ rfl; have x_g1 := N_g.c 1 _ rfl; clear N_g; have B_n := Aside0.mk N_n; have q_n := N_n.lt; have x_n0 := N_n.c 0 _ rfl; have x_n1 := N_n.c 1 _ rfl; clear N_n; have B_o := Aside0.mk N_o; have q_o := N_o.lt; have x_o0 := N_o.c 0 _ rfl; have x_o1 := N_o.c 1 _ rfl; clear N_o))
  go_ret
  exact ⟨rfl, (below_alloc HB.out _)⟩
end Go.Proofs.Ytlghmadoogblcaa.NamesWalk
