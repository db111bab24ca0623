import Derived.Test.YtlghmadoogblcaaOfPlain
import Derived.Test.YtlghmadoogblcaaAlgWalk
import Derived.Test.YtlghmadoogblcaaAlive
import Derived.Deep.Grids
import Derived.WideShapes
namespace Go.Proofs.Ytlghmadoogblcaa.Alg
open Go Go.RowKit Go.Proofs.Ytlghmadoogblcaa.PW Go.Proofs.YtlghmadoogblcaaW.PrintWords Go.Proofs.YtlghmadoogblcaaW.PrintLast Go.Proofs.YtlghmadoogblcaaW.PrintMore Go.Proofs.Ytlghmadoogblcaa.Bits Go.Proofs.Ytlghmadoogblcaa.Rowp
set_option maxRecDepth 100000
set_option linter.unusedVariables false

theorem alive_at (k : Nat) (h : 100 ≤ k) : vivariumlaw02_alive.f k = some true :=
  at_rounds (g := fun k => vivariumlaw02_alive.f k) (fun k => vivariumlaw02_alive.mono k) h Alive.alive_true

theorem law (A0 : Option Addr) (c0 : Nat) (l0 : List Bool) (A1 : Option Addr) (c1 : Nat) (l1 : List Bool) (w : World) (hr0 : Kd.C Kd.bool w A0 l0.length l0) (hc0 : l0.length ≤ c0) (hr1 : Kd.C Kd.bool w A1 l1.length l1) (hc1 : l1.length ≤ c1) :
    Calls Try.prog 11 #[.slice A0 l0.length c0, .slice A1 l1.length c1] w fun e w' => e = .returned (.bool true) ∧ Below w.heap.size w w' := by
  obtain ⟨K, hK⟩ : ∃ K : Nat, 70000 ≤ K := ⟨70000, Nat.le_refl _⟩
  obtain ⟨n, A, B, ga, gb, hp⟩ := pair_spec l0 l1 K (by omega)
  have gand := good_and ga gb
  have gor := good_or ga gb
  have gro := good_or gb ga
  have gxor := good_xor ga gb
  have gx := good_not ga
  have gy := good_not gb
  have gnand := good_not gand
  have gnots := good_or gx gy
  have gwo := good_and gor gnand
  have gback := good_not gx
  have gself := good_and ga ga
  exact walk K A0 c0 l0 A1 c1 l1 n n n n n n n n n n n n n _ _ _ _ _ _ _ _ _ _ _ _ _ w hr0 hc0 hr1 hc1 (alive_at K (by omega)) hp
    (and_spec ga gb K (by omega)) (or_spec ga gb K (by omega)) (or_spec gb ga K (by omega)) (xor_spec ga gb K (by omega)) (not_spec ga K (by omega)) (not_spec gb K (by omega)) (not_spec gand K (by omega))
    (or_spec gx gy K (by omega)) (and_spec gor gnand K (by omega)) (not_spec gx K (by omega)) (and_spec ga ga K (by omega))
    (equal_spec gnand (fun t ht => nand_nots ga gb t ht) K (by omega)) (equal_spec gxor (fun t ht => xor_without ga gb t ht) K (by omega)) (equal_spec gback (fun t ht => not_not ga t ht) K (by omega))
    (equal_spec gself (fun t ht => Nat.and_self _) K (by omega)) (equal_spec gor (fun t ht => Nat.or_comm _ _) K (by omega))

/-- A list of bools that came in. -/
theorem open_boolrow {H : Type} {enc : TypeId × Value → H} {P : Program} {w : World} {base : Nat} {held : Bool} {r : Reach} {b0 : Nat} {t e : TypeId} {v : Value} {d : DataW H} {ps : List MemPlace} (ht : P.underlying t = some (.slice e)) (he : P.underlying e = some .bool) (hc : P.cellsOf e = 1)
    (hval : Value.okWide P w r b0 t v) (hd : DataW.Trod enc P w base (fun _ => true) held t v d ps) :
    ∃ (A : Option Addr) (c : Nat) (l : List Bool), v = .slice A l.length c ∧ l.length ≤ c ∧ Kd.C Kd.bool w A l.length l := by
  obtain ⟨a, len, cap, rfl⟩ := Go.WideShapes.okWide_slice ht hval
  obtain ⟨fuel, hf⟩ := hd
  rcases Go.Deep.open_bools ht he hc hf with ⟨h1, _⟩ | ⟨ad, n, c, Bf, h1, _, hl, hm, _, hcell⟩
  · have e1 : Value.slice a len cap = .slice none 0 0 := by simpa [Value.cells] using h1
    injection e1 with e1 e2 e3
    subst e1 e2 e3
    exact ⟨none, 0, [], rfl, Nat.le_refl _, Kd.C_nil _ _⟩
  · have e1 : Value.slice a len cap = .slice (some ad) n c := by simpa [Value.cells] using h1
    injection e1 with e1 e2 e3
    subst e1 e2 e3
    have hlen : ((List.range len).map Bf).length = len := by simp
    refine ⟨some ad, cap, (List.range len).map Bf, by rw [hlen], by rw [hlen]; exact hl, by simp, by rw [hlen]; simp [maxLen] at hm; omega, fun _ => ⟨ad, rfl, fun j p hj => ⟨_, rfl, rfl, fun i u hu => ?_⟩⟩⟩
    have hj' : j < len := by
      have := (List.getElem?_eq_some_iff.1 hj).1
      simpa using this
    have hp : p = Bf j := by
      rw [List.getElem?_map, List.getElem?_range hj'] at hj
      simpa using hj.symm
    match i, hu with
    | 0, hu =>
      obtain rfl : Value.bool p = u := by simpa using hu
      rw [hp]
      simpa [Kd.bool, Kd.scalar] using hcell j (by omega)
    | i + 1, hu => simp at hu

end Go.Proofs.Ytlghmadoogblcaa.Alg
