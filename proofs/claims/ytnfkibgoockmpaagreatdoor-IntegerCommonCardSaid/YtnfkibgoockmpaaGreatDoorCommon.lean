/-
  IntegerCommon: the walk.
-/
import Derived.Test.YtnfkibgoockmpaaGreatDoorLaw2
import Derived.Test.YtnfkibgoockmpaaGreatDoorRefT
namespace Go.Proofs.YtnfkibgoockmpaaGreatDoor
open Go Go.RowKit Go.Lib Go.Shelf

set_option maxRecDepth 100000 in
set_option maxHeartbeats 4000000 in
theorem integerCommon_any (a b c : ByteArray) (w : World) (he : Env w) (hsa : a.size ≤ 9223372036854775807) (hsb : b.size ≤ 9223372036854775807) (hsc : c.size ≤ 9223372036854775807) :
    Calls Tryz.prog 5 #[.string a, .string b, .string c] w (BoolOk true w) := by
  have i0 : Is ⟨#[48]⟩ 0 := is_zero
  have i1 : Is ⟨#[49]⟩ 1 := is_lit (by decide) (by decide)
  have f0 : Fits 0 := fits_zero
  have f1 : Fits 1 := fits_lit (by decide)
  have hB : Below w.heap.size w w := Below.refl _ _
  go_enter Tryz.func5, Tryz.ntmps5
  go_wp2_with fail
  refine (sane_any _ (he.below hB)).mono ?_
  rintro e W ⟨rfl, hb⟩
  replace hB := hB.trans (hb.mono hB.size)
  clear hb
  go_wp2_with fail
  refine (made_any a 40 _ (by omega) (by omega)).mono ?_
  rintro e W ⟨x, rfl, dx, hb⟩
  replace hB := hB.trans (hb.mono hB.size)
  clear hb
  go_wp2_with fail
  refine (made_any b 40 _ (by omega) (by omega)).mono ?_
  rintro e W ⟨y, rfl, dy, hb⟩
  replace hB := hB.trans (hb.mono hB.size)
  clear hb
  go_wp2_with fail
  refine (made_any c 40 _ (by omega) (by omega)).mono ?_
  rintro e W ⟨z, rfl, dz, hb⟩
  replace hB := hB.trans (hb.mono hB.size)
  clear hb
  have fx := dx.fits (by omega)
  have fy := dy.fits (by omega)
  have fz := dz.fits (by omega)
  obtain ⟨g, hg⟩ : ∃ g : Int, g = ((x.natAbs.gcd y.natAbs : Nat) : Int) := ⟨_, rfl⟩
  have dg : Dig 40 g := by rw [hg]; exact gcd_dig dx dy
  have fg := dg.fits (by omega)
  have e1 : Hid (((x.natAbs.gcd y.natAbs : Nat) : Int) = g) := Lib.hid hg.symm
  have e2 : Hid (((y.natAbs.gcd x.natAbs : Nat) : Int) = g) := Lib.hid (by rw [hg, Nat.gcd_comm])
  have hg0 : 0 ≤ g := by omega
  have kc0 : ∃ c, cmpZ g 0 = c ∧ 0 ≤ c := ⟨_, rfl, by unfold cmpZ; split <;> (try split) <;> omega⟩
  obtain ⟨c0, kc0, hc0⟩ := kc0
  have Kc0 := Lib.hid kc0
  clear kc0
  by_cases h0 : x = 0 ∧ y = 0
  · obtain ⟨hx, hy⟩ := h0
    have nx := S_eq0 hx
    have ny := S_eq0 hy
    have ng : ((S g).toList == [48]) = true := S_eq0 (by rw [hg, hx, hy]; rfl)
    clear hx hy hg hg0
    go_wp2_with fail
    refine (gcdS (is_S x) (is_S y) e1 fx fy _ (he.below hB)).mono ?_
    rintro e W ⟨rfl, hb⟩
    replace hB := hB.trans (hb.mono hB.size)
    clear hb
    go_wp2_with fail
    refine (gcdS (is_S y) (is_S x) e2 fy fx _ (he.below hB)).mono ?_
    rintro e W ⟨rfl, hb⟩
    replace hB := hB.trans (hb.mono hB.size)
    clear hb
    go_wp2_with fail
    refine (cmpS (is_S g) i0 (c := c0) Kc0 fg f0 _).mono ?_
    rintro e W ⟨rfl, hb⟩
    replace hB := hB.trans (hb.mono hB.size)
    clear hb
    go_wp2
    go_ret
    exact ⟨rfl, hB⟩
  · have hgp : 0 < g := by
      rw [hg]
      have : 0 < x.natAbs.gcd y.natAbs := Nat.pos_of_ne_zero (fun e => h0 (by have := Nat.gcd_eq_zero_iff.1 e; omega))
      omega
    obtain ⟨t1, t2, t3⟩ := gcd_ediv (x := x) (y := y) rfl (show 0 < x.natAbs.gcd y.natAbs by omega)
    rw [← hg] at t1 t2 t3
    obtain ⟨p, hp⟩ : ∃ p, p = x / g := ⟨_, rfl⟩
    have dp : Dig 40 p := by rw [hp]; exact dx.ediv g
    have fp := dp.fits (by omega)
    obtain ⟨q, hq⟩ : ∃ p, p = y / g := ⟨_, rfl⟩
    have dq : Dig 40 q := by rw [hq]; exact dy.ediv g
    have fq := dq.fits (by omega)
    have d1q := Lib.hid hp.symm
    have d1r := Lib.hid t1
    have d2q := Lib.hid hq.symm
    have d2r := Lib.hid t2
    have g0 : Hid (g ≠ 0) := Lib.hid (by omega)
    have e3 : Hid (((p.natAbs.gcd q.natAbs : Nat) : Int) = 1) := Lib.hid (by rw [hp, hq, t3]; rfl)
    obtain ⟨xz, hxz⟩ : ∃ p, p = x * z := ⟨_, rfl⟩
    have dxz : Dig 80 xz := by rw [hxz]; exact dx.mul dz
    have fxz := dxz.fits (by omega)
    obtain ⟨yz, hyz⟩ : ∃ p, p = y * z := ⟨_, rfl⟩
    have dyz : Dig 80 yz := by rw [hyz]; exact dy.mul dz
    have fyz := dyz.fits (by omega)
    obtain ⟨gz, hgz⟩ : ∃ p, p = g * z := ⟨_, rfl⟩
    have dgz : Dig 80 gz := by rw [hgz]; exact dg.mul dz
    have fgz := dgz.fits (by omega)
    have m1 := Lib.hid hxz.symm
    have m2 := Lib.hid hyz.symm
    have m3 := Lib.hid hgz.symm
    have hal : ((xz.natAbs.gcd yz.natAbs : Nat) : Int) = (gz.natAbs : Int) := by rw [hxz, hyz, gcd_mul', hgz, hg, Int.natAbs_mul, Int.natAbs_natCast]
    clear t1 t2 t3 hp hq hxz hyz hgz hg hg0 hgp
    by_cases hx : x = 0
    · have nx := S_eq0 hx
      have ny := S_ne0 (show y ≠ 0 from fun e => h0 ⟨hx, e⟩)
      clear hx h0
      rcases Int.lt_or_le gz 0 with h | h
      · obtain ⟨s, hs⟩ : ∃ v, v = -gz := ⟨_, rfl⟩
        have ds : Dig 80 s := by rw [hs]; exact dgz.neg
        have fs := ds.fits (by omega)
        have e4 : Hid (((xz.natAbs.gcd yz.natAbs : Nat) : Int) = s) := Lib.hid (by omega)
        have e5 : Hid (0 - gz = s) := Lib.hid (by omega)
        have K1 : Hid (cmpZ gz 0 = -1) := Lib.hid (cmpZ_lt h)
        clear hal hs h
        go_wp2_with fail
        refine (gcdS (is_S x) (is_S y) e1 fx fy _ (he.below hB)).mono ?_
        rintro e W ⟨rfl, hb⟩
        replace hB := hB.trans (hb.mono hB.size)
        clear hb
        go_wp2_with fail
        refine (gcdS (is_S y) (is_S x) e2 fy fx _ (he.below hB)).mono ?_
        rintro e W ⟨rfl, hb⟩
        replace hB := hB.trans (hb.mono hB.size)
        clear hb
        go_wp2_with fail
        refine (cmpS (is_S g) i0 (c := c0) Kc0 fg f0 _).mono ?_
        rintro e W ⟨rfl, hb⟩
        replace hB := hB.trans (hb.mono hB.size)
        clear hb
        go_wp2_with fail
        refine (divS (is_S x) (is_S g) d1q d1r fx fg g0 _ (he.below hB)).mono ?_
        rintro e W ⟨rfl, hb⟩
        replace hB := hB.trans (hb.mono hB.size)
        clear hb
        rw [S_zero]
        go_wp2_with fail
        refine (divS (is_S y) (is_S g) d2q d2r fy fg g0 _ (he.below hB)).mono ?_
        rintro e W ⟨rfl, hb⟩
        replace hB := hB.trans (hb.mono hB.size)
        clear hb
        rw [S_zero]
        go_wp2_with fail
        refine (gcdS (is_S p) (is_S q) e3 fp fq _ (he.below hB)).mono ?_
        rintro e W ⟨rfl, hb⟩
        replace hB := hB.trans (hb.mono hB.size)
        clear hb
        rw [← i1.eq]
        go_wp2_with fail
        refine (mulS (is_S x) (is_S z) m1 fx fz fxz _ (he.below hB)).mono ?_
        rintro e W ⟨rfl, hb⟩
        replace hB := hB.trans (hb.mono hB.size)
        clear hb
        go_wp2_with fail
        refine (mulS (is_S y) (is_S z) m2 fy fz fyz _ (he.below hB)).mono ?_
        rintro e W ⟨rfl, hb⟩
        replace hB := hB.trans (hb.mono hB.size)
        clear hb
        go_wp2_with fail
        refine (gcdS (is_S xz) (is_S yz) e4 fxz fyz _ (he.below hB)).mono ?_
        rintro e W ⟨rfl, hb⟩
        replace hB := hB.trans (hb.mono hB.size)
        clear hb
        go_wp2_with fail
        refine (mulS (is_S g) (is_S z) m3 fg fz fgz _ (he.below hB)).mono ?_
        rintro e W ⟨rfl, hb⟩
        replace hB := hB.trans (hb.mono hB.size)
        clear hb
        go_wp2_with fail
        refine (cmpS (is_S gz) i0 (c := -1) K1 fgz f0 _).mono ?_
        rintro e W ⟨rfl, hb⟩
        replace hB := hB.trans (hb.mono hB.size)
        clear hb
        go_wp2_with fail
        refine (subS i0 (is_S gz) e5 f0 fgz fs _ (he.below hB)).mono ?_
        rintro e W ⟨rfl, hb⟩
        replace hB := hB.trans (hb.mono hB.size)
        clear hb
        go_wp2
        go_ret
        exact ⟨rfl, hB⟩
      · have e4 : Hid (((xz.natAbs.gcd yz.natAbs : Nat) : Int) = gz) := Lib.hid (by omega)
        have kc1 : ∃ c, cmpZ gz 0 = c ∧ 0 ≤ c := ⟨_, rfl, by unfold cmpZ; split <;> (try split) <;> omega⟩
        obtain ⟨c1, kc1, hc1⟩ := kc1
        have Kc1 := Lib.hid kc1
        clear kc1
        clear hal h
        go_wp2_with fail
        refine (gcdS (is_S x) (is_S y) e1 fx fy _ (he.below hB)).mono ?_
        rintro e W ⟨rfl, hb⟩
        replace hB := hB.trans (hb.mono hB.size)
        clear hb
        go_wp2_with fail
        refine (gcdS (is_S y) (is_S x) e2 fy fx _ (he.below hB)).mono ?_
        rintro e W ⟨rfl, hb⟩
        replace hB := hB.trans (hb.mono hB.size)
        clear hb
        go_wp2_with fail
        refine (cmpS (is_S g) i0 (c := c0) Kc0 fg f0 _).mono ?_
        rintro e W ⟨rfl, hb⟩
        replace hB := hB.trans (hb.mono hB.size)
        clear hb
        go_wp2_with fail
        refine (divS (is_S x) (is_S g) d1q d1r fx fg g0 _ (he.below hB)).mono ?_
        rintro e W ⟨rfl, hb⟩
        replace hB := hB.trans (hb.mono hB.size)
        clear hb
        rw [S_zero]
        go_wp2_with fail
        refine (divS (is_S y) (is_S g) d2q d2r fy fg g0 _ (he.below hB)).mono ?_
        rintro e W ⟨rfl, hb⟩
        replace hB := hB.trans (hb.mono hB.size)
        clear hb
        rw [S_zero]
        go_wp2_with fail
        refine (gcdS (is_S p) (is_S q) e3 fp fq _ (he.below hB)).mono ?_
        rintro e W ⟨rfl, hb⟩
        replace hB := hB.trans (hb.mono hB.size)
        clear hb
        rw [← i1.eq]
        go_wp2_with fail
        refine (mulS (is_S x) (is_S z) m1 fx fz fxz _ (he.below hB)).mono ?_
        rintro e W ⟨rfl, hb⟩
        replace hB := hB.trans (hb.mono hB.size)
        clear hb
        go_wp2_with fail
        refine (mulS (is_S y) (is_S z) m2 fy fz fyz _ (he.below hB)).mono ?_
        rintro e W ⟨rfl, hb⟩
        replace hB := hB.trans (hb.mono hB.size)
        clear hb
        go_wp2_with fail
        refine (gcdS (is_S xz) (is_S yz) e4 fxz fyz _ (he.below hB)).mono ?_
        rintro e W ⟨rfl, hb⟩
        replace hB := hB.trans (hb.mono hB.size)
        clear hb
        go_wp2_with fail
        refine (mulS (is_S g) (is_S z) m3 fg fz fgz _ (he.below hB)).mono ?_
        rintro e W ⟨rfl, hb⟩
        replace hB := hB.trans (hb.mono hB.size)
        clear hb
        go_wp2_with fail
        refine (cmpS (is_S gz) i0 (c := c1) Kc1 fgz f0 _).mono ?_
        rintro e W ⟨rfl, hb⟩
        replace hB := hB.trans (hb.mono hB.size)
        clear hb
        go_wp2
        go_ret
        exact ⟨rfl, hB⟩
    · have nx := S_ne0 hx
      clear hx h0
      rcases Int.lt_or_le gz 0 with h | h
      · obtain ⟨s, hs⟩ : ∃ v, v = -gz := ⟨_, rfl⟩
        have ds : Dig 80 s := by rw [hs]; exact dgz.neg
        have fs := ds.fits (by omega)
        have e4 : Hid (((xz.natAbs.gcd yz.natAbs : Nat) : Int) = s) := Lib.hid (by omega)
        have e5 : Hid (0 - gz = s) := Lib.hid (by omega)
        have K1 : Hid (cmpZ gz 0 = -1) := Lib.hid (cmpZ_lt h)
        clear hal hs h
        go_wp2_with fail
        refine (gcdS (is_S x) (is_S y) e1 fx fy _ (he.below hB)).mono ?_
        rintro e W ⟨rfl, hb⟩
        replace hB := hB.trans (hb.mono hB.size)
        clear hb
        go_wp2_with fail
        refine (gcdS (is_S y) (is_S x) e2 fy fx _ (he.below hB)).mono ?_
        rintro e W ⟨rfl, hb⟩
        replace hB := hB.trans (hb.mono hB.size)
        clear hb
        go_wp2_with fail
        refine (cmpS (is_S g) i0 (c := c0) Kc0 fg f0 _).mono ?_
        rintro e W ⟨rfl, hb⟩
        replace hB := hB.trans (hb.mono hB.size)
        clear hb
        go_wp2_with fail
        refine (divS (is_S x) (is_S g) d1q d1r fx fg g0 _ (he.below hB)).mono ?_
        rintro e W ⟨rfl, hb⟩
        replace hB := hB.trans (hb.mono hB.size)
        clear hb
        rw [S_zero]
        go_wp2_with fail
        refine (divS (is_S y) (is_S g) d2q d2r fy fg g0 _ (he.below hB)).mono ?_
        rintro e W ⟨rfl, hb⟩
        replace hB := hB.trans (hb.mono hB.size)
        clear hb
        rw [S_zero]
        go_wp2_with fail
        refine (gcdS (is_S p) (is_S q) e3 fp fq _ (he.below hB)).mono ?_
        rintro e W ⟨rfl, hb⟩
        replace hB := hB.trans (hb.mono hB.size)
        clear hb
        rw [← i1.eq]
        go_wp2_with fail
        refine (mulS (is_S x) (is_S z) m1 fx fz fxz _ (he.below hB)).mono ?_
        rintro e W ⟨rfl, hb⟩
        replace hB := hB.trans (hb.mono hB.size)
        clear hb
        go_wp2_with fail
        refine (mulS (is_S y) (is_S z) m2 fy fz fyz _ (he.below hB)).mono ?_
        rintro e W ⟨rfl, hb⟩
        replace hB := hB.trans (hb.mono hB.size)
        clear hb
        go_wp2_with fail
        refine (gcdS (is_S xz) (is_S yz) e4 fxz fyz _ (he.below hB)).mono ?_
        rintro e W ⟨rfl, hb⟩
        replace hB := hB.trans (hb.mono hB.size)
        clear hb
        go_wp2_with fail
        refine (mulS (is_S g) (is_S z) m3 fg fz fgz _ (he.below hB)).mono ?_
        rintro e W ⟨rfl, hb⟩
        replace hB := hB.trans (hb.mono hB.size)
        clear hb
        go_wp2_with fail
        refine (cmpS (is_S gz) i0 (c := -1) K1 fgz f0 _).mono ?_
        rintro e W ⟨rfl, hb⟩
        replace hB := hB.trans (hb.mono hB.size)
        clear hb
        go_wp2_with fail
        refine (subS i0 (is_S gz) e5 f0 fgz fs _ (he.below hB)).mono ?_
        rintro e W ⟨rfl, hb⟩
        replace hB := hB.trans (hb.mono hB.size)
        clear hb
        go_wp2
        go_ret
        exact ⟨rfl, hB⟩
      · have e4 : Hid (((xz.natAbs.gcd yz.natAbs : Nat) : Int) = gz) := Lib.hid (by omega)
        have kc1 : ∃ c, cmpZ gz 0 = c ∧ 0 ≤ c := ⟨_, rfl, by unfold cmpZ; split <;> (try split) <;> omega⟩
        obtain ⟨c1, kc1, hc1⟩ := kc1
        have Kc1 := Lib.hid kc1
        clear kc1
        clear hal h
        go_wp2_with fail
        refine (gcdS (is_S x) (is_S y) e1 fx fy _ (he.below hB)).mono ?_
        rintro e W ⟨rfl, hb⟩
        replace hB := hB.trans (hb.mono hB.size)
        clear hb
        go_wp2_with fail
        refine (gcdS (is_S y) (is_S x) e2 fy fx _ (he.below hB)).mono ?_
        rintro e W ⟨rfl, hb⟩
        replace hB := hB.trans (hb.mono hB.size)
        clear hb
        go_wp2_with fail
        refine (cmpS (is_S g) i0 (c := c0) Kc0 fg f0 _).mono ?_
        rintro e W ⟨rfl, hb⟩
        replace hB := hB.trans (hb.mono hB.size)
        clear hb
        go_wp2_with fail
        refine (divS (is_S x) (is_S g) d1q d1r fx fg g0 _ (he.below hB)).mono ?_
        rintro e W ⟨rfl, hb⟩
        replace hB := hB.trans (hb.mono hB.size)
        clear hb
        rw [S_zero]
        go_wp2_with fail
        refine (divS (is_S y) (is_S g) d2q d2r fy fg g0 _ (he.below hB)).mono ?_
        rintro e W ⟨rfl, hb⟩
        replace hB := hB.trans (hb.mono hB.size)
        clear hb
        rw [S_zero]
        go_wp2_with fail
        refine (gcdS (is_S p) (is_S q) e3 fp fq _ (he.below hB)).mono ?_
        rintro e W ⟨rfl, hb⟩
        replace hB := hB.trans (hb.mono hB.size)
        clear hb
        rw [← i1.eq]
        go_wp2_with fail
        refine (mulS (is_S x) (is_S z) m1 fx fz fxz _ (he.below hB)).mono ?_
        rintro e W ⟨rfl, hb⟩
        replace hB := hB.trans (hb.mono hB.size)
        clear hb
        go_wp2_with fail
        refine (mulS (is_S y) (is_S z) m2 fy fz fyz _ (he.below hB)).mono ?_
        rintro e W ⟨rfl, hb⟩
        replace hB := hB.trans (hb.mono hB.size)
        clear hb
        go_wp2_with fail
        refine (gcdS (is_S xz) (is_S yz) e4 fxz fyz _ (he.below hB)).mono ?_
        rintro e W ⟨rfl, hb⟩
        replace hB := hB.trans (hb.mono hB.size)
        clear hb
        go_wp2_with fail
        refine (mulS (is_S g) (is_S z) m3 fg fz fgz _ (he.below hB)).mono ?_
        rintro e W ⟨rfl, hb⟩
        replace hB := hB.trans (hb.mono hB.size)
        clear hb
        go_wp2_with fail
        refine (cmpS (is_S gz) i0 (c := c1) Kc1 fgz f0 _).mono ?_
        rintro e W ⟨rfl, hb⟩
        replace hB := hB.trans (hb.mono hB.size)
        clear hb
        go_wp2
        go_ret
        exact ⟨rfl, hB⟩
end Go.Proofs.YtnfkibgoockmpaaGreatDoor
