/- The machine side that the outright statements of layer 4 share: 'alive' answers true. -/
import Derived.Test.YtmcidodpnhkdfaaDoorPrint
import Derived.Test.YtmcidodpnhkdfaaDoorParse
import Derived.Test.YtmcidodpnhkdfaaDoorHasWalk
import Derived.Test.YtmcidodpnhkdfaaDoorBx
namespace Go.Proofs.YtmcidodpnhkdfaaDoor.Alive
open Go.RowKit Go.Proofs.YtmcidodpnhkdfaaDoorW.PrintWords Go.Proofs.YtmcidodpnhkdfaaDoor.Box Go.Proofs.YtmcidodpnhkdfaaDoor.Bx Go.Proofs.YtmcidodpnhkdfaaDoor.Text Go.Proofs.YtmcidodpnhkdfaaDoor.PrintPlain Go.Proofs.YtmcidodpnhkdfaaDoor.PrintWalk Go.Proofs.YtmcidodpnhkdfaaDoor.ParseSpec Go.Proofs.YtmcidodpnhkdfaaDoor.HasWalk Go.Proofs.YtmcidodpnhkdfaaDoor.PT Go.Proofs.YtmcidodpnhkdfaaDoor.CheckPlain
set_option linter.unusedVariables false
set_option linter.unusedSimpArgs false
theorem digs (u : Nat) (h : u < 10) : Lib.decDigits u = [UInt8.ofNat (48 + u)] := dec_small h
theorem text1 : printR 2 30 20 2 (-5) = (⟨#[84, 51, 48, 44, 50, 48, 45, 53]⟩, 0) := by
  have h : checkR 2 30 20 2 (-5) = 0 := by decide
  unfold printR
  rw [if_pos h]
  simp [S, printL, letter, tl, Lib.itoa, Lib.decDigits]
theorem parse1 : parse ⟨#[84, 51, 48, 44, 50, 48, 45, 53]⟩ = (2, 30, 20, 2, -5, 0, 0) := by decide +kernel
theorem parse2 : parse ⟨#[75, 51, 44, 52]⟩ = (0, 0, 0, 0, 0, 4, 44) := by decide +kernel
theorem has1 : hasB 2 30 20 2 (-5) 14 9 = true ∧ hasE 2 30 20 2 (-5) 14 9 = 0 := by decide +kernel
theorem has2 : hasB 2 30 20 2 (-5) 15 9 = false ∧ hasE 2 30 20 2 (-5) 15 9 = 0 := by decide +kernel
theorem home1 : topo_Home.f 5 2 30 20 2 (-5) = some (-15, -10, 30, 20, 0) := by rw [home_at]; decide +kernel
set_option maxHeartbeats 4000000 in
set_option maxRecDepth 100000 in
theorem alive (w : World) (hp : Pow w) :
    Calls Tryd.prog 15 #[] w fun e w' => e = .returned (.bool true) ∧ Below w.heap.size w w' := by
  have c1 := fun (W : World) => ParseAll.parse_calls ⟨#[84, 51, 48, 44, 50, 48, 45, 53]⟩ W
  have c2 := fun (W : World) => ParseAll.parse_calls ⟨#[75, 51, 44, 52]⟩ W
  have c3 : ∀ W : World, Below w.heap.size w W → Calls Tryd.prog 10 #[.agg #[.int .u8 2, .int .i64 30, .int .i64 20, .int .u8 2, .int .i64 (-5)]] W fun e w' => e = .returned (.tuple #[.string ⟨#[84, 51, 48, 44, 50, 48, 45, 53]⟩, .int .i64 0]) ∧ Below W.heap.size W w' := fun W hb => by
    have := print_calls 2 30 20 2 (-5) (by omega) W (hp.on hb)
    rw [text1] at this
    exact this
  have c4 := fun (W : World) => topo_Home.calls 5 2 30 20 2 (-5) _ _ _ _ _ W home1
  have c5 := fun (W : World) => has_any 2 30 20 2 (-5) 14 9 W
  have c6 := fun (W : World) => has_any 2 30 20 2 (-5) 15 9 W
  rw [parse1] at c1
  rw [parse2] at c2
  rw [has1.1, has1.2] at c5
  rw [has2.1, has2.2] at c6
  simp only [ParseAll.told] at c1 c2
  have K1 := Aside0.mk c1; have K2 := Aside0.mk c2; have K3 := Aside0.mk c3; have K4 := Aside0.mk c4; have K5 := Aside0.mk c5; have K6 := Aside0.mk c6
  clear c1 c2 c3 c4 c5 c6 hp
  have hu0 := Tryd.underlying23
  have hu1 := Tryd.underlying34
  have hu2 := Tryd.underlying40
  go_enter Tryd.func15, Tryd.ntmps15
  go_wp2_with (first
    | (go_at_call 14; with_reducible refine (K1.out _).mono ?_; rintro e v1 ⟨rfl, hb⟩; have NB := chain (Below.refl w.heap.size w) hb; clear hb; have HB := Aside0.mk NB; clear NB)
    | (go_at_call 10; with_reducible refine (K3.out _ (by first | exact HB.out | exact below_alloc HB.out _)).mono ?_; rintro e v2 ⟨rfl, hb⟩; have N_t := (Bx.new _ #[.int .u8 2, .int .i64 30, .int .i64 20, .int .u8 2, .int .i64 (-5)] 23).on hb; have NB := chain (below_alloc HB.out _) hb; clear hb; clear HB; have HB := Aside0.mk NB; clear NB; have B_t := Aside0.mk N_t; have q_t := N_t.lt; have x_t0 := N_t.c 0 _ rfl; have x_t1 := N_t.c 1 _ rfl; have x_t2 := N_t.c 2 _ rfl; have x_t3 := N_t.c 3 _ rfl; have x_t4 := N_t.c 4 _ rfl; clear N_t)
    | (go_at_call 16; with_reducible refine (K4.out _).mono ?_; rintro e v3 ⟨rfl, hb⟩; have N_t := (B_t.out).on hb; have NB := chain HB.out hb; clear hb; clear HB; clear B_t q_t x_t0 x_t1 x_t2 x_t3 x_t4; have HB := Aside0.mk NB; clear NB; have B_t := Aside0.mk N_t; have q_t := N_t.lt; have x_t0 := N_t.c 0 _ rfl; have x_t1 := N_t.c 1 _ rfl; have x_t2 := N_t.c 2 _ rfl; have x_t3 := N_t.c 3 _ rfl; have x_t4 := N_t.c 4 _ rfl; clear N_t)
    | (go_at_call 19; with_reducible refine (K5.out _).mono ?_; rintro e v4 ⟨rfl, hb⟩; have N_t := ((B_t.out).alloc _).on hb; have N_r := (Bx.new _ #[.int .i64 (-15), .int .i64 (-10), .int .i64 30, .int .i64 20] 34).on hb; have NB := chain (below_alloc HB.out _) hb; clear hb; clear HB; clear B_t q_t x_t0 x_t1 x_t2 x_t3 x_t4; have HB := Aside0.mk NB; clear NB; have B_t := Aside0.mk N_t; have q_t := N_t.lt; have x_t0 := N_t.c 0 _ rfl; have x_t1 := N_t.c 1 _ rfl; have x_t2 := N_t.c 2 _ rfl; have x_t3 := N_t.c 3 _ rfl; have x_t4 := N_t.c 4 _ rfl; clear N_t; have B_r := Aside0.mk N_r; have q_r := N_r.lt; have x_r0 := N_r.c 0 _ rfl; have x_r1 := N_r.c 1 _ rfl; have x_r2 := N_r.c 2 _ rfl; have x_r3 := N_r.c 3 _ rfl; clear N_r)
    | (go_at_call 19; with_reducible refine (K6.out _).mono ?_; rintro e v5 ⟨rfl, hb⟩; have N_t := (B_t.out).on hb; have N_r := (B_r.out).on hb; have NB := chain HB.out hb; clear hb; clear HB; clear B_t q_t x_t0 x_t1 x_t2 x_t3 x_t4; clear B_r q_r x_r0 x_r1 x_r2 x_r3; have HB := Aside0.mk NB; clear NB; have B_t := Aside0.mk N_t; have q_t := N_t.lt; have x_t0 := N_t.c 0 _ rfl; have x_t1 := N_t.c 1 _ rfl; have x_t2 := N_t.c 2 _ rfl; have x_t3 := N_t.c 3 _ rfl; have x_t4 := N_t.c 4 _ rfl; clear N_t; have B_r := Aside0.mk N_r; have q_r := N_r.lt; have x_r0 := N_r.c 0 _ rfl; have x_r1 := N_r.c 1 _ rfl; have x_r2 := N_r.c 2 _ rfl; have x_r3 := N_r.c 3 _ rfl; clear N_r)
    | (go_at_call 14; with_reducible refine (K2.out _).mono ?_; rintro e v6 ⟨rfl, hb⟩; have N_t := (B_t.out).on hb; have N_r := (B_r.out).on hb; have NB := chain HB.out hb; clear hb; clear HB; clear B_t q_t x_t0 x_t1 x_t2 x_t3 x_t4; clear B_r q_r x_r0 x_r1 x_r2 x_r3; have HB := Aside0.mk NB; clear NB; have B_t := Aside0.mk N_t; have q_t := N_t.lt; have x_t0 := N_t.c 0 _ rfl; have x_t1 := N_t.c 1 _ rfl; have x_t2 := N_t.c 2 _ rfl; have x_t3 := N_t.c 3 _ rfl; have x_t4 := N_t.c 4 _ rfl; clear N_t; have B_r := Aside0.mk N_r; have q_r := N_r.lt; have x_r0 := N_r.c 0 _ rfl; have x_r1 := N_r.c 1 _ rfl; have x_r2 := N_r.c 2 _ rfl; have x_r3 := N_r.c 3 _ rfl; clear N_r))
  go_ret
  exact ⟨rfl, (below_alloc (below_alloc HB.out _) _)⟩
end Go.Proofs.YtmcidodpnhkdfaaDoor.Alive
