/-
  IntegerDivided: the walk.
-/
import Derived.Test.YtnfkibgoockmpaaGreatDoorSane
import Derived.Test.YtnfkibgoockmpaaGreatDoorRefT
namespace Go.Proofs.YtnfkibgoockmpaaGreatDoor
open Go Go.RowKit Go.Lib Go.Shelf

set_option maxRecDepth 100000 in
set_option maxHeartbeats 4000000 in
theorem integerDivided_any (a b : ByteArray) (w : World) (he : Env w) (hsa : a.size ≤ 9223372036854775807) (hsb : b.size ≤ 9223372036854775807) :
    Calls Tryz.prog 4 #[.string a, .string b] w (BoolOk true w) := by
  have i0 : Is ⟨#[48]⟩ 0 := is_zero
  have i1 : Is ⟨#[49]⟩ 1 := is_lit (by decide) (by decide)
  have f0 : Fits 0 := fits_zero
  have f1 : Fits 1 := fits_lit (by decide)
  have hB : Below w.heap.size w w := Below.refl _ _
  go_enter Tryz.func4, Tryz.ntmps4
  go_wp2_with fail
  refine (sane_any _ (he.below hB)).mono ?_
  rintro e W ⟨rfl, hb⟩
  replace hB := hB.trans (hb.mono hB.size)
  clear hb
  go_wp2_with fail
  refine (made_any a 90 _ (by omega) (by omega)).mono ?_
  rintro e W ⟨x, rfl, dx, hb⟩
  replace hB := hB.trans (hb.mono hB.size)
  clear hb
  go_wp2_with fail
  refine (made_any b 60 _ (by omega) (by omega)).mono ?_
  rintro e W ⟨y, rfl, dy, hb⟩
  replace hB := hB.trans (hb.mono hB.size)
  clear hb
  have fx := dx.fits (by omega)
  have fy := dy.fits (by omega)
  by_cases hy : y = 0
  · subst hy
    rw [S_zero]
    go_wp2_with fail
    refine (divZ (is_S x) i0 fx _).mono ?_
    rintro e W ⟨rfl, hb⟩
    replace hB := hB.trans (hb.mono hB.size)
    clear hb
    go_wp2
    go_ret
    exact ⟨rfl, hB⟩
  · obtain ⟨q, hq⟩ : ∃ v, v = x / y := ⟨_, rfl⟩
    have dq : Dig 90 q := by rw [hq]; exact dx.ediv y
    have fq := dq.fits (by omega)
    obtain ⟨r, hr⟩ : ∃ v, v = x % y := ⟨_, rfl⟩
    have dr : Dig 60 r := by rw [hr]; exact Dig.emod x dy hy
    have fr := dr.fits (by omega)
    have hr0 : 0 ≤ r := by rw [hr]; exact Int.emod_nonneg x hy
    have hr1 : r < y.natAbs := by rw [hr]; have := Int.emod_lt x hy; omega
    obtain ⟨p, hp⟩ : ∃ v, v = q * y := ⟨_, rfl⟩
    have dp : Dig 150 p := by rw [hp]; exact dq.mul dy
    have fp := dp.fits (by omega)
    obtain ⟨o, ho⟩ : ∃ v, v = x * y := ⟨_, rfl⟩
    have do' : Dig 150 o := by rw [ho]; exact dx.mul dy
    have fo := do'.fits (by omega)
    have d1q := Lib.hid hq.symm
    have d1r := Lib.hid hr.symm
    have y0 := Lib.hid hy
    have e1 := Lib.hid hp.symm
    have e2 : Hid (p + r = x) := Lib.hid (by rw [hp, hq, hr, Int.mul_comm]; exact Int.mul_ediv_add_emod x y)
    have e3 : Hid (y * 1 = y) := Lib.hid (by omega)
    have e4 := Lib.hid ho.symm
    have d2q : Hid (o / y = x) := Lib.hid (by rw [ho]; exact Int.mul_ediv_cancel x hy)
    have d2r : Hid (o % y = 0) := Lib.hid (by rw [ho]; exact Int.mul_emod_left x y)
    have k2 : ∃ c, cmpZ r 0 = c ∧ 0 ≤ c := ⟨_, rfl, by unfold cmpZ; split <;> (try split) <;> omega⟩
    obtain ⟨c2, k2, hc2⟩ := k2
    have K2 := Lib.hid k2
    have ny := S_ne0 hy
    have V := Lib.hid ((is_S r).valid fr)
    have sr := (is_S r).str fr
    clear hq hr hp ho k2
    rcases Int.lt_or_le y 0 with h | h
    · obtain ⟨s, hs⟩ : ∃ v, v = -y := ⟨_, rfl⟩
      have ds : Dig 60 s := by rw [hs]; exact dy.neg
      have fs := ds.fits (by omega)
      have e5 : Hid (0 - y = s) := Lib.hid (by omega)
      have K1 : Hid (cmpZ y 0 = -1) := Lib.hid (cmpZ_lt h)
      have K3 : Hid (cmpZ r s = -1) := Lib.hid (cmpZ_lt (by omega))
      clear hs h hr0 hr1 hy
      go_wp2_with fail
      refine (divS (is_S x) (is_S y) d1q d1r fx fy y0 _ (he.below hB)).mono ?_
      rintro e W ⟨rfl, hb⟩
      replace hB := hB.trans (hb.mono hB.size)
      clear hb
      go_wp2_with fail
      refine (mulS (is_S q) (is_S y) e1 fq fy fp _ (he.below hB)).mono ?_
      rintro e W ⟨rfl, hb⟩
      replace hB := hB.trans (hb.mono hB.size)
      clear hb
      go_wp2_with fail
      refine (addS (is_S p) (is_S r) e2 fp fr fx _ (he.below hB)).mono ?_
      rintro e W ⟨rfl, hb⟩
      replace hB := hB.trans (hb.mono hB.size)
      clear hb
      go_wp2_with fail
      refine (mulS (is_S y) i1 e3 fy f1 fy _ (he.below hB)).mono ?_
      rintro e W ⟨rfl, hb⟩
      replace hB := hB.trans (hb.mono hB.size)
      clear hb
      go_wp2_with fail
      refine (cmpS (is_S y) i0 (c := -1) K1 fy f0 _).mono ?_
      rintro e W ⟨rfl, hb⟩
      replace hB := hB.trans (hb.mono hB.size)
      clear hb
      go_wp2_with fail
      refine (subS i0 (is_S y) e5 f0 fy fs _ (he.below hB)).mono ?_
      rintro e W ⟨rfl, hb⟩
      replace hB := hB.trans (hb.mono hB.size)
      clear hb
      go_wp2_with fail
      refine (mulS (is_S x) (is_S y) e4 fx fy fo _ (he.below hB)).mono ?_
      rintro e W ⟨rfl, hb⟩
      replace hB := hB.trans (hb.mono hB.size)
      clear hb
      go_wp2_with fail
      refine (divS (is_S o) (is_S y) d2q d2r fo fy y0 _ (he.below hB)).mono ?_
      rintro e W ⟨rfl, hb⟩
      replace hB := hB.trans (hb.mono hB.size)
      clear hb
      rw [S_zero]
      go_wp2_with fail
      refine (cmpS (is_S r) i0 (c := c2) K2 fr f0 _).mono ?_
      rintro e W ⟨rfl, hb⟩
      replace hB := hB.trans (hb.mono hB.size)
      clear hb
      go_wp2_with fail
      refine (cmpS (is_S r) (is_S s) (c := -1) K3 fr fs _).mono ?_
      rintro e W ⟨rfl, hb⟩
      replace hB := hB.trans (hb.mono hB.size)
      clear hb
      go_wp2_with fail
      refine (validS V sr _).mono ?_
      rintro e W ⟨rfl, hb⟩
      replace hB := hB.trans (hb.mono hB.size)
      clear hb
      go_wp2
      go_ret
      exact ⟨rfl, hB⟩
    · have K1 : Hid (cmpZ y 0 = 1) := Lib.hid (cmpZ_gt (by omega))
      have K3 : Hid (cmpZ r y = -1) := Lib.hid (cmpZ_lt (by omega))
      clear h hr0 hr1 hy
      go_wp2_with fail
      refine (divS (is_S x) (is_S y) d1q d1r fx fy y0 _ (he.below hB)).mono ?_
      rintro e W ⟨rfl, hb⟩
      replace hB := hB.trans (hb.mono hB.size)
      clear hb
      go_wp2_with fail
      refine (mulS (is_S q) (is_S y) e1 fq fy fp _ (he.below hB)).mono ?_
      rintro e W ⟨rfl, hb⟩
      replace hB := hB.trans (hb.mono hB.size)
      clear hb
      go_wp2_with fail
      refine (addS (is_S p) (is_S r) e2 fp fr fx _ (he.below hB)).mono ?_
      rintro e W ⟨rfl, hb⟩
      replace hB := hB.trans (hb.mono hB.size)
      clear hb
      go_wp2_with fail
      refine (mulS (is_S y) i1 e3 fy f1 fy _ (he.below hB)).mono ?_
      rintro e W ⟨rfl, hb⟩
      replace hB := hB.trans (hb.mono hB.size)
      clear hb
      go_wp2_with fail
      refine (cmpS (is_S y) i0 (c := 1) K1 fy f0 _).mono ?_
      rintro e W ⟨rfl, hb⟩
      replace hB := hB.trans (hb.mono hB.size)
      clear hb
      go_wp2_with fail
      refine (mulS (is_S x) (is_S y) e4 fx fy fo _ (he.below hB)).mono ?_
      rintro e W ⟨rfl, hb⟩
      replace hB := hB.trans (hb.mono hB.size)
      clear hb
      go_wp2_with fail
      refine (divS (is_S o) (is_S y) d2q d2r fo fy y0 _ (he.below hB)).mono ?_
      rintro e W ⟨rfl, hb⟩
      replace hB := hB.trans (hb.mono hB.size)
      clear hb
      rw [S_zero]
      go_wp2_with fail
      refine (cmpS (is_S r) i0 (c := c2) K2 fr f0 _).mono ?_
      rintro e W ⟨rfl, hb⟩
      replace hB := hB.trans (hb.mono hB.size)
      clear hb
      go_wp2_with fail
      refine (cmpS (is_S r) (is_S y) (c := -1) K3 fr fy _).mono ?_
      rintro e W ⟨rfl, hb⟩
      replace hB := hB.trans (hb.mono hB.size)
      clear hb
      go_wp2_with fail
      refine (validS V sr _).mono ?_
      rintro e W ⟨rfl, hb⟩
      replace hB := hB.trans (hb.mono hB.size)
      clear hb
      go_wp2
      go_ret
      exact ⟨rfl, hB⟩
end Go.Proofs.YtnfkibgoockmpaaGreatDoor
