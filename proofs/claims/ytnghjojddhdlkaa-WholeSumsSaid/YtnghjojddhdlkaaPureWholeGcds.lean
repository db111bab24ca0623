/- WholeGcds without Go: the program's greatest common divisors of seven kinds (by numbers below nought) and the reference's (by words without a sign) tell the same. -/
import Derived.Test.YtnghjojddhdlkaaPWholeGcdsx
import Derived.Test.YtnghjojddhdlkaaMath
namespace Go.Proofs.Ytnghjojddhdlkaa.PureGcds
open Go.RowKit Go.Proofs.Ytnghjojddhdlkaa.PWholeGcds Go.Proofs.Ytnghjojddhdlkaa.Math

def res (lim g : Nat) : Int × Bool := if g = lim then (0, false) else ((g : Int), true)

theorem gcd_le {a b : Nat} {lim : Nat} (ha : a ≤ lim) (hb : b ≤ lim) : Nat.gcd a b ≤ lim := by
  by_cases h : a = 0
  · subst h; simpa using hb
  · exact Nat.le_trans (Nat.gcd_le_left b (by omega)) ha

theorem prog_all {f j0 j1 l0 : Nat → Int → Int → Option (Int × Bool)} {neg : Int → Int} (lim : Nat) (hlim : 0 < lim)
    (hn : ∀ x : Nat, x ≤ lim → neg (-(x : Int)) = if x = lim then -(lim : Int) else (x : Int)) (hp : ∀ x : Int, 0 < x → x < lim → neg x = -x)
    (hf : ∀ k a b, f k a b = if a > 0 then j0 k (neg a) b else j0 k a b) (h0 : ∀ k a b, j0 (k + 1) a b = if b > 0 then j1 k a (neg b) else j1 k a b)
    (h1 : ∀ k a b, j1 (k + 1) a b = l0 k a b) (hl : ∀ k a b, l0 (k + 1) a b = if b = 0 then gcdFin neg a else l0 k b (Int.tmod a b))
    (a b : Int) (a0 : -(lim : Int) ≤ a) (a1 : a < lim) (b0 : -(lim : Int) ≤ b) (b1 : b < lim) (k : Nat) (hk : b.natAbs + 3 ≤ k) :
    f k a b = some (res lim (Nat.gcd a.natAbs b.natAbs)) := by
  obtain ⟨k, rfl⟩ : ∃ m, k = m + 2 := ⟨k - 2, by omega⟩
  have ea : f (k + 2) a b = j0 (k + 2) (-(a.natAbs : Int)) b := by
    rw [hf]; split
    · rw [hp a (by omega) a1, show a = (a.natAbs : Int) by omega]; rfl
    · congr 1; omega
  have eb : ∀ x, j0 (k + 2) x b = l0 k x (-(b.natAbs : Int)) := by
    intro x
    rw [h0]; split
    · rw [hp b (by omega) b1, h1, show -b = -(b.natAbs : Int) by omega]
    · rw [h1]; congr 1; omega
  rw [ea, eb, prog_gcd hl b.natAbs a.natAbs k (by omega)]
  have hg := gcd_le (a := a.natAbs) (b := b.natAbs) (lim := lim) (by omega) (by omega)
  generalize Nat.gcd a.natAbs b.natAbs = g at hg
  unfold gcdFin res
  rw [hn g hg]
  by_cases e : g = lim
  · rw [if_pos e, if_neg (by omega), if_pos (by omega), if_pos e]
  · rw [if_neg e, if_neg e]
    by_cases z : (-(g : Int)) = 0
    · rw [if_pos z]
    · rw [if_neg z, if_neg (by omega)]


theorem gcd8 (a b : Int) (a0 : -128 ≤ a) (a1 : a ≤ 127) (b0 : -128 ≤ b) (b1 : b ≤ 127) (k : Nat) (hk : b.natAbs + 3 ≤ k) : whole_Gcd_int8.f k a b = some (res 128 (Nat.gcd a.natAbs b.natAbs)) :=
  prog_all (neg := fun x => IntKind.i8.wrap (-x)) (f := whole_Gcd_int8.f) (j0 := whole_Gcd_int8.j0) (j1 := whole_Gcd_int8.j1) (l0 := whole_Gcd_int8.l0) 128 (by omega) (fun x hx => by rw [i8_wrap]; split <;> omega) (fun x h0 h1 => by rw [i8_wrap]; omega)
    (fun _ _ _ => rfl) (fun _ _ _ => by rw [whole_Gcd_int8.j0]) (fun _ _ _ => by rw [whole_Gcd_int8.j1]) (fun _ _ _ => by rw [whole_Gcd_int8.l0]; rfl) a b (by omega) (by omega) (by omega) (by omega) k hk
theorem gcdT (a b : Int) (a0 : -128 ≤ a) (a1 : a ≤ 127) (b0 : -128 ≤ b) (b1 : b ≤ 127) (k : Nat) (hk : b.natAbs + 3 ≤ k) : vivariumlaw01_Tiny.f k a b = some (res 128 (Nat.gcd a.natAbs b.natAbs)) :=
  prog_all (neg := fun x => IntKind.i8.wrap (-x)) (f := vivariumlaw01_Tiny.f) (j0 := vivariumlaw01_Tiny.j0) (j1 := vivariumlaw01_Tiny.j1) (l0 := vivariumlaw01_Tiny.l0) 128 (by omega) (fun x hx => by rw [i8_wrap]; split <;> omega) (fun x h0 h1 => by rw [i8_wrap]; omega)
    (fun _ _ _ => rfl) (fun _ _ _ => by rw [vivariumlaw01_Tiny.j0]) (fun _ _ _ => by rw [vivariumlaw01_Tiny.j1]) (fun _ _ _ => by rw [vivariumlaw01_Tiny.l0]; rfl) a b (by omega) (by omega) (by omega) (by omega) k hk
theorem gcd16 (a b : Int) (a0 : -32768 ≤ a) (a1 : a ≤ 32767) (b0 : -32768 ≤ b) (b1 : b ≤ 32767) (k : Nat) (hk : b.natAbs + 3 ≤ k) : whole_Gcd_int16.f k a b = some (res 32768 (Nat.gcd a.natAbs b.natAbs)) :=
  prog_all (neg := fun x => IntKind.i16.wrap (-x)) (f := whole_Gcd_int16.f) (j0 := whole_Gcd_int16.j0) (j1 := whole_Gcd_int16.j1) (l0 := whole_Gcd_int16.l0) 32768 (by omega) (fun x hx => by rw [i16_wrap]; split <;> omega) (fun x h0 h1 => by rw [i16_wrap]; omega)
    (fun _ _ _ => rfl) (fun _ _ _ => by rw [whole_Gcd_int16.j0]) (fun _ _ _ => by rw [whole_Gcd_int16.j1]) (fun _ _ _ => by rw [whole_Gcd_int16.l0]; rfl) a b (by omega) (by omega) (by omega) (by omega) k hk
theorem gcd32 (a b : Int) (a0 : -2147483648 ≤ a) (a1 : a ≤ 2147483647) (b0 : -2147483648 ≤ b) (b1 : b ≤ 2147483647) (k : Nat) (hk : b.natAbs + 3 ≤ k) : whole_Gcd_int32.f k a b = some (res 2147483648 (Nat.gcd a.natAbs b.natAbs)) :=
  prog_all (neg := fun x => wrap32 (-x)) (f := whole_Gcd_int32.f) (j0 := whole_Gcd_int32.j0) (j1 := whole_Gcd_int32.j1) (l0 := whole_Gcd_int32.l0) 2147483648 (by omega) (fun x hx => by unfold wrap32; split <;> omega) (fun x h0 h1 => by unfold wrap32; omega)
    (fun _ _ _ => rfl) (fun _ _ _ => by rw [whole_Gcd_int32.j0]) (fun _ _ _ => by rw [whole_Gcd_int32.j1]) (fun _ _ _ => by rw [whole_Gcd_int32.l0]; rfl) a b (by omega) (by omega) (by omega) (by omega) k hk
theorem gcd64 (a b : Int) (a0 : -9223372036854775808 ≤ a) (a1 : a ≤ 9223372036854775807) (b0 : -9223372036854775808 ≤ b) (b1 : b ≤ 9223372036854775807) (k : Nat) (hk : b.natAbs + 3 ≤ k) : whole_Gcd_int64.f k a b = some (res 9223372036854775808 (Nat.gcd a.natAbs b.natAbs)) :=
  prog_all (neg := fun x => wrap64 (-x)) (f := whole_Gcd_int64.f) (j0 := whole_Gcd_int64.j0) (j1 := whole_Gcd_int64.j1) (l0 := whole_Gcd_int64.l0) 9223372036854775808 (by omega) (fun x hx => by unfold wrap64; split <;> omega) (fun x h0 h1 => by unfold wrap64; omega)
    (fun _ _ _ => rfl) (fun _ _ _ => by rw [whole_Gcd_int64.j0]) (fun _ _ _ => by rw [whole_Gcd_int64.j1]) (fun _ _ _ => by rw [whole_Gcd_int64.l0]; rfl) a b (by omega) (by omega) (by omega) (by omega) k hk
theorem gcdI (a b : Int) (a0 : -9223372036854775808 ≤ a) (a1 : a ≤ 9223372036854775807) (b0 : -9223372036854775808 ≤ b) (b1 : b ≤ 9223372036854775807) (k : Nat) (hk : b.natAbs + 3 ≤ k) : whole_Gcd_int.f k a b = some (res 9223372036854775808 (Nat.gcd a.natAbs b.natAbs)) :=
  prog_all (neg := fun x => wrap64 (-x)) (f := whole_Gcd_int.f) (j0 := whole_Gcd_int.j0) (j1 := whole_Gcd_int.j1) (l0 := whole_Gcd_int.l0) 9223372036854775808 (by omega) (fun x hx => by unfold wrap64; split <;> omega) (fun x h0 h1 => by unfold wrap64; omega)
    (fun _ _ _ => rfl) (fun _ _ _ => by rw [whole_Gcd_int.j0]) (fun _ _ _ => by rw [whole_Gcd_int.j1]) (fun _ _ _ => by rw [whole_Gcd_int.l0]; rfl) a b (by omega) (by omega) (by omega) (by omega) k hk
theorem gcdW (a b : Int) (a0 : -9223372036854775808 ≤ a) (a1 : a ≤ 9223372036854775807) (b0 : -9223372036854775808 ≤ b) (b1 : b ≤ 9223372036854775807) (k : Nat) (hk : b.natAbs + 3 ≤ k) : vivariumlaw01_Wide.f k a b = some (res 9223372036854775808 (Nat.gcd a.natAbs b.natAbs)) :=
  prog_all (neg := fun x => wrap64 (-x)) (f := vivariumlaw01_Wide.f) (j0 := vivariumlaw01_Wide.j0) (j1 := vivariumlaw01_Wide.j1) (l0 := vivariumlaw01_Wide.l0) 9223372036854775808 (by omega) (fun x hx => by unfold wrap64; split <;> omega) (fun x h0 h1 => by unfold wrap64; omega)
    (fun _ _ _ => rfl) (fun _ _ _ => by rw [vivariumlaw01_Wide.j0]) (fun _ _ _ => by rw [vivariumlaw01_Wide.j1]) (fun _ _ _ => by rw [vivariumlaw01_Wide.l0]; rfl) a b (by omega) (by omega) (by omega) (by omega) k hk

theorem size_at (a : Int) (a0 : -9223372036854775808 ≤ a) (a1 : a ≤ 9223372036854775807) : vivariumref01_size.f a = some (a.natAbs : Int) := by
  unfold vivariumref01_size.f
  split
  · congr 1; rw [u64_wrap, u64_wrap]; unfold wrap64; omega
  · congr 1; rw [u64_wrap]; omega

def fitsFin (n h : Int) : Option (Int × Bool) := if n > h then some (0, false) else (if n < wrap64 (wrap64 (-h) - 1) then some (0, false) else some (n, true))
theorem fits_at (n : Int) (bits : Nat) (hb : 1 ≤ bits) (hb' : bits ≤ 64) (k : Nat) (hk : 65 ≤ k) : vivariumref01_Fits.f k n bits = fitsFin n ((2 ^ (bits - 1) : Nat) - 1 : Int) := by
  have h := ref_fits (l := fun k h i => vivariumref01_Fits.l0 k n bits h i) (fin := fitsFin n) bits hb (fun k h i => by rw [vivariumref01_Fits.l0]; rfl) (64 - bits) k (by omega) (by omega)
  rw [show bits + (64 - bits) = 64 by omega] at h
  exact h

theorem ref_at (a b : Int) (bits lim : Nat) (hb : 1 ≤ bits) (hb' : bits ≤ 64) (hl : 2 ^ (bits - 1) = lim) (a0 : -(lim : Int) ≤ a) (a1 : a < lim) (b0 : -(lim : Int) ≤ b) (b1 : b < lim) (hlim : lim ≤ 9223372036854775808) (k : Nat) (hk : b.natAbs + 70 ≤ k) :
    vivariumref01_Gcd.f k a b bits = some (res lim (Nat.gcd a.natAbs b.natAbs)) := by
  have hg := gcd_le (a := a.natAbs) (b := b.natAbs) (lim := lim) (by omega) (by omega)
  unfold vivariumref01_Gcd.f
  rw [size_at a (by omega) (by omega), size_at b (by omega) (by omega)]
  simp only [Option.bind_some]
  obtain ⟨m, hm, hr⟩ := ref_gcd (l := fun k x y => vivariumref01_Gcd.l0 k bits x y) (fin := fun k x => ((vivariumref01_signed.f k x false).bind fun bt103 => (if bt103.2 = true then ((vivariumref01_Fits.f k bt103.1 bits).bind fun bt105 => (some (bt105.1, bt105.2))) else (some (0, false)))))
    (fun k x y => by rw [vivariumref01_Gcd.l0]) b.natAbs a.natAbs k (by omega)
  rw [hr]
  generalize Nat.gcd a.natAbs b.natAbs = g at hg
  obtain ⟨m, rfl⟩ : ∃ n, m = n + 1 := ⟨m - 1, by omega⟩
  unfold vivariumref01_signed.f
  rw [if_neg (by simp), vivariumref01_signed.j0, if_neg (by simp)]
  unfold res
  by_cases h : (g : Int) > 9223372036854775807
  · rw [if_pos h, if_pos (by omega)]; rfl
  · rw [if_neg h]
    simp only [Option.bind_some]
    rw [if_pos trivial, fits_at _ bits hb hb' _ (by omega), hl]
    have e : wrap64 (g : Int) = g := by unfold wrap64; omega
    rw [e]
    unfold fitsFin
    by_cases h2 : g = lim
    · rw [if_pos (by omega), if_pos h2]; rfl
    · rw [if_neg (by omega), if_neg h2, if_neg (by unfold wrap64; omega)]; rfl

theorem is_same (r : Int × Bool) : vivariumlaw01_is.f r.1 r.2 r.1 r.2 = some true := by
  unfold vivariumlaw01_is.f; simp

theorem res_w (lim g : Nat) (h : g ≤ lim) (hl : lim ≤ 9223372036854775807) : wrap64 (res lim g).1 = (res lim g).1 := by
  unfold res; split <;> unfold wrap64 <;> dsimp only <;> omega

theorem WholeGcds (a0 a1 a2 a3 a4 a5 a6 a7 a8 a9 : Int) (h0 : (Lit.int .i8 a0).wf = true) (h1 : (Lit.int .i8 a1).wf = true) (h2 : (Lit.int .i16 a2).wf = true) (h3 : (Lit.int .i16 a3).wf = true) (h4 : (Lit.int .i32 a4).wf = true) (h5 : (Lit.int .i32 a5).wf = true)
    (h6 : (Lit.int .i64 a6).wf = true) (h7 : (Lit.int .i64 a7).wf = true) (h8 : (Lit.int .i64 a8).wf = true) (h9 : (Lit.int .i64 a9).wf = true) : ∃ k, vivariumlaw01_WholeGcds.f k a0 a1 a2 a3 a4 a5 a6 a7 a8 a9 = some true := by
  simp [Lit.wf, IntKind.min, IntKind.max, IntKind.signed, IntKind.bits] at h0 h1 h2 h3 h4 h5 h6 h7 h8 h9
  refine ⟨a1.natAbs + a3.natAbs + a5.natAbs + a7.natAbs + a9.natAbs + 70, ?_⟩
  have w0 : wrap64 a0 = a0 := by unfold wrap64; omega
  have w1 : wrap64 a1 = a1 := by unfold wrap64; omega
  have w2 : wrap64 a2 = a2 := by unfold wrap64; omega
  have w3 : wrap64 a3 = a3 := by unfold wrap64; omega
  have w4 : wrap64 a4 = a4 := by unfold wrap64; omega
  have w5 : wrap64 a5 = a5 := by unfold wrap64; omega
  unfold vivariumlaw01_WholeGcds.f
  rw [w0, w1, w2, w3, w4, w5]
  rw [gcd8 a0 a1 (by omega) (by omega) (by omega) (by omega) _ (by omega), gcd16 a2 a3 (by omega) (by omega) (by omega) (by omega) _ (by omega), gcd32 a4 a5 (by omega) (by omega) (by omega) (by omega) _ (by omega), gcd64 a6 a7 (by omega) (by omega) (by omega) (by omega) _ (by omega),
    gcdI a8 a9 (by omega) (by omega) (by omega) (by omega) _ (by omega), gcdT a0 a1 (by omega) (by omega) (by omega) (by omega) _ (by omega), gcdW a8 a9 (by omega) (by omega) (by omega) (by omega) _ (by omega)]
  rw [show (8 : Int) = ((8 : Nat) : Int) from rfl, show (16 : Int) = ((16 : Nat) : Int) from rfl, show (32 : Int) = ((32 : Nat) : Int) from rfl, show (64 : Int) = ((64 : Nat) : Int) from rfl]
  rw [ref_at a0 a1 8 128 (by omega) (by omega) (by decide) (by omega) (by omega) (by omega) (by omega) (by omega) _ (by omega), ref_at a2 a3 16 32768 (by omega) (by omega) (by decide) (by omega) (by omega) (by omega) (by omega) (by omega) _ (by omega), ref_at a4 a5 32 2147483648 (by omega) (by omega) (by decide) (by omega) (by omega) (by omega) (by omega) (by omega) _ (by omega),
    ref_at a6 a7 64 9223372036854775808 (by omega) (by omega) (by decide) (by omega) (by omega) (by omega) (by omega) (by omega) _ (by omega), ref_at a8 a9 64 9223372036854775808 (by omega) (by omega) (by decide) (by omega) (by omega) (by omega) (by omega) (by omega) _ (by omega)]
  simp only [Option.bind_some]
  rw [res_w 128 _ (gcd_le (by omega) (by omega)) (by omega), res_w 32768 _ (gcd_le (by omega) (by omega)) (by omega), res_w 2147483648 _ (gcd_le (by omega) (by omega)) (by omega)]
  simp only [is_same, Option.bind_some, if_true]
end Go.Proofs.Ytnghjojddhdlkaa.PureGcds
