/-
  IntegerOrder: the walk.
-/
import Derived.Test.YtnfkibgoockmpaaGreatDoorSane
import Derived.Test.YtnfkibgoockmpaaGreatDoorRefT
namespace Go.Proofs.YtnfkibgoockmpaaGreatDoor
open Go Go.RowKit Go.Lib Go.Shelf

set_option maxRecDepth 100000 in
set_option maxHeartbeats 4000000 in
theorem integerOrder_any (a b c : ByteArray) (w : World) (he : Env w) (hsa : a.size ≤ 9223372036854775807) (hsb : b.size ≤ 9223372036854775807) (hsc : c.size ≤ 9223372036854775807) :
    Calls Tryz.prog 7 #[.string a, .string b, .string c] w (BoolOk true w) := by
  have i0 : Is ⟨#[48]⟩ 0 := is_zero
  have i1 : Is ⟨#[49]⟩ 1 := is_lit (by decide) (by decide)
  have f0 : Fits 0 := fits_zero
  have f1 : Fits 1 := fits_lit (by decide)
  have hB : Below w.heap.size w w := Below.refl _ _
  go_enter Tryz.func7, Tryz.ntmps7
  go_wp2_with fail
  refine (sane_any _ (he.below hB)).mono ?_
  rintro e W ⟨rfl, hb⟩
  replace hB := hB.trans (hb.mono hB.size)
  clear hb
  go_wp2_with fail
  refine (made_any a 60 _ (by omega) (by omega)).mono ?_
  rintro e W ⟨x, rfl, dx, hb⟩
  replace hB := hB.trans (hb.mono hB.size)
  clear hb
  go_wp2_with fail
  refine (made_any b 60 _ (by omega) (by omega)).mono ?_
  rintro e W ⟨y, rfl, dy, hb⟩
  replace hB := hB.trans (hb.mono hB.size)
  clear hb
  go_wp2_with fail
  refine (made_any c 60 _ (by omega) (by omega)).mono ?_
  rintro e W ⟨z, rfl, dz, hb⟩
  replace hB := hB.trans (hb.mono hB.size)
  clear hb
  have fx := dx.fits (by omega)
  have fy := dy.fits (by omega)
  have fz := dz.fits (by omega)
  obtain ⟨d, hd⟩ : ∃ v, v = x - y := ⟨_, rfl⟩
  have dd : Dig 61 d := by rw [hd]; exact dx.sub dy
  have fd := dd.fits (by omega)
  obtain ⟨xz, hxz⟩ : ∃ v, v = x + z := ⟨_, rfl⟩
  have dxz : Dig 61 xz := by rw [hxz]; exact dx.add dz
  have fxz := dxz.fits (by omega)
  obtain ⟨yz, hyz⟩ : ∃ v, v = y + z := ⟨_, rfl⟩
  have dyz : Dig 61 yz := by rw [hyz]; exact dy.add dz
  have fyz := dyz.fits (by omega)
  have e1 := Lib.hid hd.symm
  have e2 := Lib.hid hxz.symm
  have e3 := Lib.hid hyz.symm
  rcases Int.lt_trichotomy x y with h | h | h
  · have k1 : Hid (cmpZ x y = -1) := Lib.hid (cmpZ_lt (by omega))
    have k2 : Hid (cmpZ y x = 1) := Lib.hid (cmpZ_gt (by omega))
    have k3 : Hid (cmpZ d 0 = -1) := Lib.hid (cmpZ_lt (by omega))
    have k4 : Hid (cmpZ xz yz = -1) := Lib.hid (cmpZ_lt (by omega))
    have ns := S_ne (show x ≠ y by omega)
    have HH := Lib.hid h
    clear h hd hxz hyz
    go_wp2_with fail
    refine (cmpS (is_S x) (is_S y) (c := -1) k1 fx fy _).mono ?_
    rintro e W ⟨rfl, hb⟩
    replace hB := hB.trans (hb.mono hB.size)
    clear hb
    go_wp2_with fail
    refine (subS (is_S x) (is_S y) e1 fx fy fd _ (he.below hB)).mono ?_
    rintro e W ⟨rfl, hb⟩
    replace hB := hB.trans (hb.mono hB.size)
    clear hb
    go_wp2_with fail
    refine (addS (is_S x) (is_S z) e2 fx fz fxz _ (he.below hB)).mono ?_
    rintro e W ⟨rfl, hb⟩
    replace hB := hB.trans (hb.mono hB.size)
    clear hb
    go_wp2_with fail
    refine (addS (is_S y) (is_S z) e3 fy fz fyz _ (he.below hB)).mono ?_
    rintro e W ⟨rfl, hb⟩
    replace hB := hB.trans (hb.mono hB.size)
    clear hb
    go_wp2_with fail
    refine (cmpS (is_S y) (is_S x) (c := 1) k2 fy fx _).mono ?_
    rintro e W ⟨rfl, hb⟩
    replace hB := hB.trans (hb.mono hB.size)
    clear hb
    go_wp2_with fail
    refine (cmpS (is_S d) i0 (c := -1) k3 fd f0 _).mono ?_
    rintro e W ⟨rfl, hb⟩
    replace hB := hB.trans (hb.mono hB.size)
    clear hb
    go_wp2_with fail
    refine (cmpS (is_S xz) (is_S yz) (c := -1) k4 fxz fyz _).mono ?_
    rintro e W ⟨rfl, hb⟩
    replace hB := hB.trans (hb.mono hB.size)
    clear hb
    go_wp2_with fail
    rcases Int.lt_trichotomy y z with g | g | g
    · have k5 : Hid (cmpZ y z = -1) := Lib.hid (cmpZ_lt g)
      have k6 : Hid (cmpZ x z = -1) := Lib.hid (cmpZ_lt (by have := HH.out; omega))
      clear g
      go_wp2_with fail
      refine (cmpS (is_S y) (is_S z) (c := -1) k5 fy fz _).mono ?_
      rintro e W ⟨rfl, hb⟩
      replace hB := hB.trans (hb.mono hB.size)
      clear hb
      go_wp2_with fail
      refine (cmpS (is_S x) (is_S z) (c := -1) k6 fx fz _).mono ?_
      rintro e W ⟨rfl, hb⟩
      replace hB := hB.trans (hb.mono hB.size)
      clear hb
      go_wp2
      go_ret
      exact ⟨rfl, hB⟩
    · have k5 : Hid (cmpZ y z = 0) := Lib.hid (cmpZ_eq g)
      have k6 : Hid (cmpZ x z = -1) := Lib.hid (cmpZ_lt (by have := HH.out; omega))
      clear g
      go_wp2_with fail
      refine (cmpS (is_S y) (is_S z) (c := 0) k5 fy fz _).mono ?_
      rintro e W ⟨rfl, hb⟩
      replace hB := hB.trans (hb.mono hB.size)
      clear hb
      go_wp2_with fail
      refine (cmpS (is_S x) (is_S z) (c := -1) k6 fx fz _).mono ?_
      rintro e W ⟨rfl, hb⟩
      replace hB := hB.trans (hb.mono hB.size)
      clear hb
      go_wp2
      go_ret
      exact ⟨rfl, hB⟩
    · have k5 : Hid (cmpZ y z = 1) := Lib.hid (cmpZ_gt g)
      clear g
      go_wp2_with fail
      refine (cmpS (is_S y) (is_S z) (c := 1) k5 fy fz _).mono ?_
      rintro e W ⟨rfl, hb⟩
      replace hB := hB.trans (hb.mono hB.size)
      clear hb
      go_wp2
      go_ret
      exact ⟨rfl, hB⟩
  · subst h
    have k1 : Hid (cmpZ x x = 0) := Lib.hid (cmpZ_eq (by omega))
    have k2 : Hid (cmpZ x x = 0) := Lib.hid (cmpZ_eq (by omega))
    have k3 : Hid (cmpZ d 0 = 0) := Lib.hid (cmpZ_eq (by omega))
    have k4 : Hid (cmpZ xz yz = 0) := Lib.hid (cmpZ_eq (by omega))
    have HH : Hid (x = x) := Lib.hid rfl
    clear hd hxz hyz
    go_wp2_with fail
    refine (cmpS (is_S x) (is_S x) (c := 0) k1 fx fx _).mono ?_
    rintro e W ⟨rfl, hb⟩
    replace hB := hB.trans (hb.mono hB.size)
    clear hb
    go_wp2_with fail
    refine (subS (is_S x) (is_S x) e1 fx fx fd _ (he.below hB)).mono ?_
    rintro e W ⟨rfl, hb⟩
    replace hB := hB.trans (hb.mono hB.size)
    clear hb
    go_wp2_with fail
    refine (addS (is_S x) (is_S z) e2 fx fz fxz _ (he.below hB)).mono ?_
    rintro e W ⟨rfl, hb⟩
    replace hB := hB.trans (hb.mono hB.size)
    clear hb
    go_wp2_with fail
    refine (addS (is_S x) (is_S z) e3 fx fz fyz _ (he.below hB)).mono ?_
    rintro e W ⟨rfl, hb⟩
    replace hB := hB.trans (hb.mono hB.size)
    clear hb
    go_wp2_with fail
    refine (cmpS (is_S x) (is_S x) (c := 0) k2 fx fx _).mono ?_
    rintro e W ⟨rfl, hb⟩
    replace hB := hB.trans (hb.mono hB.size)
    clear hb
    go_wp2_with fail
    refine (cmpS (is_S d) i0 (c := 0) k3 fd f0 _).mono ?_
    rintro e W ⟨rfl, hb⟩
    replace hB := hB.trans (hb.mono hB.size)
    clear hb
    go_wp2_with fail
    refine (cmpS (is_S xz) (is_S yz) (c := 0) k4 fxz fyz _).mono ?_
    rintro e W ⟨rfl, hb⟩
    replace hB := hB.trans (hb.mono hB.size)
    clear hb
    go_wp2_with fail
    rcases Int.lt_trichotomy x z with g | g | g
    · have k5 : Hid (cmpZ x z = -1) := Lib.hid (cmpZ_lt g)
      have k6 : Hid (cmpZ x z = -1) := Lib.hid (cmpZ_lt (by have := HH.out; omega))
      clear g
      go_wp2_with fail
      refine (cmpS (is_S x) (is_S z) (c := -1) k5 fx fz _).mono ?_
      rintro e W ⟨rfl, hb⟩
      replace hB := hB.trans (hb.mono hB.size)
      clear hb
      go_wp2_with fail
      refine (cmpS (is_S x) (is_S z) (c := -1) k6 fx fz _).mono ?_
      rintro e W ⟨rfl, hb⟩
      replace hB := hB.trans (hb.mono hB.size)
      clear hb
      go_wp2
      go_ret
      exact ⟨rfl, hB⟩
    · have k5 : Hid (cmpZ x z = 0) := Lib.hid (cmpZ_eq g)
      have k6 : Hid (cmpZ x z = 0) := Lib.hid (cmpZ_eq (by have := HH.out; omega))
      clear g
      go_wp2_with fail
      refine (cmpS (is_S x) (is_S z) (c := 0) k5 fx fz _).mono ?_
      rintro e W ⟨rfl, hb⟩
      replace hB := hB.trans (hb.mono hB.size)
      clear hb
      go_wp2_with fail
      refine (cmpS (is_S x) (is_S z) (c := 0) k6 fx fz _).mono ?_
      rintro e W ⟨rfl, hb⟩
      replace hB := hB.trans (hb.mono hB.size)
      clear hb
      go_wp2
      go_ret
      exact ⟨rfl, hB⟩
    · have k5 : Hid (cmpZ x z = 1) := Lib.hid (cmpZ_gt g)
      clear g
      go_wp2_with fail
      refine (cmpS (is_S x) (is_S z) (c := 1) k5 fx fz _).mono ?_
      rintro e W ⟨rfl, hb⟩
      replace hB := hB.trans (hb.mono hB.size)
      clear hb
      go_wp2
      go_ret
      exact ⟨rfl, hB⟩
  · have k1 : Hid (cmpZ x y = 1) := Lib.hid (cmpZ_gt (by omega))
    have k2 : Hid (cmpZ y x = -1) := Lib.hid (cmpZ_lt (by omega))
    have k3 : Hid (cmpZ d 0 = 1) := Lib.hid (cmpZ_gt (by omega))
    have k4 : Hid (cmpZ xz yz = 1) := Lib.hid (cmpZ_gt (by omega))
    have ns := S_ne (show x ≠ y by omega)
    clear h hd hxz hyz
    go_wp2_with fail
    refine (cmpS (is_S x) (is_S y) (c := 1) k1 fx fy _).mono ?_
    rintro e W ⟨rfl, hb⟩
    replace hB := hB.trans (hb.mono hB.size)
    clear hb
    go_wp2_with fail
    refine (subS (is_S x) (is_S y) e1 fx fy fd _ (he.below hB)).mono ?_
    rintro e W ⟨rfl, hb⟩
    replace hB := hB.trans (hb.mono hB.size)
    clear hb
    go_wp2_with fail
    refine (addS (is_S x) (is_S z) e2 fx fz fxz _ (he.below hB)).mono ?_
    rintro e W ⟨rfl, hb⟩
    replace hB := hB.trans (hb.mono hB.size)
    clear hb
    go_wp2_with fail
    refine (addS (is_S y) (is_S z) e3 fy fz fyz _ (he.below hB)).mono ?_
    rintro e W ⟨rfl, hb⟩
    replace hB := hB.trans (hb.mono hB.size)
    clear hb
    go_wp2_with fail
    refine (cmpS (is_S y) (is_S x) (c := -1) k2 fy fx _).mono ?_
    rintro e W ⟨rfl, hb⟩
    replace hB := hB.trans (hb.mono hB.size)
    clear hb
    go_wp2_with fail
    refine (cmpS (is_S d) i0 (c := 1) k3 fd f0 _).mono ?_
    rintro e W ⟨rfl, hb⟩
    replace hB := hB.trans (hb.mono hB.size)
    clear hb
    go_wp2_with fail
    refine (cmpS (is_S xz) (is_S yz) (c := 1) k4 fxz fyz _).mono ?_
    rintro e W ⟨rfl, hb⟩
    replace hB := hB.trans (hb.mono hB.size)
    clear hb
    go_wp2
    go_ret
    exact ⟨rfl, hB⟩
end Go.Proofs.YtnfkibgoockmpaaGreatDoor
