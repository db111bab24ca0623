/- The machine side of TopoNames. -/
import Derived.Test.YtmcidodpnhkdfaaDoorAlive
namespace Go.Proofs.YtmcidodpnhkdfaaDoor.NamesWalk
open Go.RowKit Go.Proofs.YtmcidodpnhkdfaaDoorW.PrintWords Go.Proofs.YtmcidodpnhkdfaaDoor.Box Go.Proofs.YtmcidodpnhkdfaaDoor.Bx Go.Proofs.YtmcidodpnhkdfaaDoor.Text Go.Proofs.YtmcidodpnhkdfaaDoor.ParseSpec Go.Proofs.YtmcidodpnhkdfaaDoor.Alive
set_option linter.unusedVariables false
set_option linter.unusedSimpArgs false
theorem parseP : parse ⟨#[80]⟩ = (1, 0, 0, 0, 0, 0, 0) := by decide +kernel
theorem parseN : parse ⟨#[]⟩ = (0, 0, 0, 0, 0, 0, 40) := by decide +kernel
set_option maxHeartbeats 4000000 in
set_option maxRecDepth 100000 in
theorem law (w : World) (hp : Pow w) :
    Calls Tryd.prog 4 #[] w fun e w' => e = .returned (.bool true) ∧ Below w.heap.size w w' := by
  have c1 := fun (W : World) => ParseAll.parse_calls ⟨#[80]⟩ W
  have c2 := fun (W : World) => ParseAll.parse_calls ⟨#[]⟩ W
  have c3 : ∀ W : World, Below w.heap.size w W → Calls Tryd.prog 15 #[] W fun e w' => e = .returned (.bool true) ∧ Below W.heap.size W w' := fun W hb => alive W (hp.on hb)
  rw [parseP] at c1
  rw [parseN] at c2
  simp only [ParseAll.told] at c1 c2
  have K1 := Aside0.mk c1; have K2 := Aside0.mk c2; have K3 := Aside0.mk c3
  clear c1 c2 c3 hp
  have hu0 := Tryd.underlying23
  go_enter Tryd.func4, Tryd.ntmps4
  go_wp2_with (first
    | (go_at_call 14; with_reducible refine (K1.out _).mono ?_; rintro e v1 ⟨rfl, hb⟩; have NB := chain (Below.refl w.heap.size w) hb; clear hb; have HB := Aside0.mk NB; clear NB)
    | (go_at_call 14; with_reducible refine (K2.out _).mono ?_; rintro e v2 ⟨rfl, hb⟩; have N_t := (Bx.new _ #[.int .u8 1, .int .i64 0, .int .i64 0, .int .u8 0, .int .i64 0] 23).on hb; have NB := chain (below_alloc HB.out _) hb; clear hb; clear HB; have HB := Aside0.mk NB; clear NB; have B_t := Aside0.mk N_t; have q_t := N_t.lt; have x_t0 := N_t.c 0 _ rfl; have x_t1 := N_t.c 1 _ rfl; have x_t2 := N_t.c 2 _ rfl; have x_t3 := N_t.c 3 _ rfl; have x_t4 := N_t.c 4 _ rfl; clear N_t)
    | (go_at_call 15; with_reducible refine (K3.out _ (by first | exact HB.out | exact below_alloc HB.out _)).mono ?_; rintro e v3 ⟨rfl, hb⟩; have N_t := ((B_t.out).alloc _).on hb; have N_z := (Bx.new _ #[.int .u8 0, .int .i64 0, .int .i64 0, .int .u8 0, .int .i64 0] 23).on hb; have NB := chain (below_alloc HB.out _) hb; clear hb; clear HB; clear B_t q_t x_t0 x_t1 x_t2 x_t3 x_t4; have HB := Aside0.mk NB; clear NB; have B_t := Aside0.mk N_t; have q_t := N_t.lt; have x_t0 := N_t.c 0 _ rfl; have x_t1 := N_t.c 1 _ rfl; have x_t2 := N_t.c 2 _ rfl; have x_t3 := N_t.c 3 _ rfl; have x_t4 := N_t.c 4 _ rfl; clear N_t; have B_z := Aside0.mk N_z; have q_z := N_z.lt; have x_z0 := N_z.c 0 _ rfl; have x_z1 := N_z.c 1 _ rfl; have x_z2 := N_z.c 2 _ rfl; have x_z3 := N_z.c 3 _ rfl; have x_z4 := N_z.c 4 _ rfl; clear N_z))
  go_ret
  exact ⟨rfl, HB.out⟩
end Go.Proofs.YtmcidodpnhkdfaaDoor.NamesWalk
