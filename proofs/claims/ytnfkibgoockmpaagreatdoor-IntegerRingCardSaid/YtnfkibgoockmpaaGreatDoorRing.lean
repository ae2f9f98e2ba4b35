/-
  IntegerRing: the walk.
-/
import Derived.Test.YtnfkibgoockmpaaGreatDoorSane
import Derived.Test.YtnfkibgoockmpaaGreatDoorRefT
namespace Go.Proofs.YtnfkibgoockmpaaGreatDoor
open Go Go.RowKit Go.Lib Go.Shelf

set_option maxRecDepth 100000 in
set_option maxHeartbeats 4000000 in
theorem integerRing_any (a b c : ByteArray) (w : World) (he : Env w) (hsa : a.size ≤ 9223372036854775807) (hsb : b.size ≤ 9223372036854775807) (hsc : c.size ≤ 9223372036854775807) :
    Calls Tryz.prog 3 #[.string a, .string b, .string c] w (BoolOk true w) := by
  have i0 : Is ⟨#[48]⟩ 0 := is_zero
  have i1 : Is ⟨#[49]⟩ 1 := is_lit (by decide) (by decide)
  have f0 : Fits 0 := fits_zero
  have f1 : Fits 1 := fits_lit (by decide)
  have hB : Below w.heap.size w w := Below.refl _ _
  go_enter Tryz.func3, Tryz.ntmps3
  go_wp2_with fail
  refine (sane_any _ (he.below hB)).mono ?_
  rintro e W ⟨rfl, hb⟩
  replace hB := hB.trans (hb.mono hB.size)
  clear hb
  go_wp2_with fail
  refine (made_any a 60 _ (by omega) (by omega)).mono ?_
  rintro e W ⟨x, rfl, dx, hb⟩
  replace hB := hB.trans (hb.mono hB.size)
  clear hb
  go_wp2_with fail
  refine (made_any b 60 _ (by omega) (by omega)).mono ?_
  rintro e W ⟨y, rfl, dy, hb⟩
  replace hB := hB.trans (hb.mono hB.size)
  clear hb
  go_wp2_with fail
  refine (made_any c 60 _ (by omega) (by omega)).mono ?_
  rintro e W ⟨z, rfl, dz, hb⟩
  replace hB := hB.trans (hb.mono hB.size)
  clear hb
  have fx := dx.fits (by omega)
  have fy := dy.fits (by omega)
  have fz := dz.fits (by omega)
  obtain ⟨xy, hxy⟩ : ∃ v, v = x + y := ⟨_, rfl⟩
  have dxy : Dig 61 xy := by rw [hxy]; exact dx.add dy
  have fxy := dxy.fits (by omega)
  obtain ⟨xyz, hxyz⟩ : ∃ v, v = xy + z := ⟨_, rfl⟩
  have dxyz : Dig 62 xyz := by rw [hxyz]; exact dxy.add (dz.mono (by omega))
  have fxyz := dxyz.fits (by omega)
  obtain ⟨yz, hyz⟩ : ∃ v, v = y + z := ⟨_, rfl⟩
  have dyz : Dig 61 yz := by rw [hyz]; exact dy.add dz
  have fyz := dyz.fits (by omega)
  obtain ⟨p, hp⟩ : ∃ v, v = x * y := ⟨_, rfl⟩
  have dp : Dig 120 p := by rw [hp]; exact dx.mul dy
  have fp := dp.fits (by omega)
  obtain ⟨pz, hpz⟩ : ∃ v, v = p * z := ⟨_, rfl⟩
  have dpz : Dig 180 pz := by rw [hpz]; exact dp.mul dz
  have fpz := dpz.fits (by omega)
  obtain ⟨r, hr⟩ : ∃ v, v = y * z := ⟨_, rfl⟩
  have dr : Dig 120 r := by rw [hr]; exact dy.mul dz
  have fr := dr.fits (by omega)
  obtain ⟨l, hl⟩ : ∃ v, v = xy * z := ⟨_, rfl⟩
  have dl : Dig 121 l := by rw [hl]; exact dxy.mul dz
  have fl := dl.fits (by omega)
  obtain ⟨xz, hxz⟩ : ∃ v, v = x * z := ⟨_, rfl⟩
  have dxz : Dig 120 xz := by rw [hxz]; exact dx.mul dz
  have fxz := dxz.fits (by omega)
  obtain ⟨d, hd⟩ : ∃ v, v = x - y := ⟨_, rfl⟩
  have dd : Dig 61 d := by rw [hd]; exact dx.sub dy
  have fd := dd.fits (by omega)
  have e1 := Lib.hid hxy.symm
  have e2 : Hid (y + x = xy) := Lib.hid (by rw [hxy, Int.add_comm])
  have e3 := Lib.hid hxyz.symm
  have e4 := Lib.hid hyz.symm
  have e5 : Hid (x + yz = xyz) := Lib.hid (by rw [hxyz, hyz, hxy, Int.add_assoc])
  have m1 := Lib.hid hp.symm
  have m2 : Hid (y * x = p) := Lib.hid (by rw [hp, Int.mul_comm])
  have m3 := Lib.hid hpz.symm
  have m4 := Lib.hid hr.symm
  have m5 : Hid (x * r = pz) := Lib.hid (by rw [hpz, hr, hp, Int.mul_assoc])
  have g1 := Lib.hid hl.symm
  have g2 := Lib.hid hxz.symm
  have g3 : Hid (xz + r = l) := Lib.hid (by rw [hl, hxz, hr, hxy, Int.add_mul])
  have s1 := Lib.hid hd.symm
  have s2 : Hid (d + y = x) := Lib.hid (by rw [hd]; omega)
  have s3 : Hid (x * 1 = x) := Lib.hid (by omega)
  have s4 : Hid (x * 0 = 0) := Lib.hid (by omega)
  clear hxy hxyz hyz hp hpz hr hl hxz hd
  go_wp2_with fail
  refine (addS (is_S x) (is_S y) e1 fx fy fxy _ (he.below hB)).mono ?_
  rintro e W ⟨rfl, hb⟩
  replace hB := hB.trans (hb.mono hB.size)
  clear hb
  go_wp2_with fail
  refine (addS (is_S y) (is_S x) e2 fy fx fxy _ (he.below hB)).mono ?_
  rintro e W ⟨rfl, hb⟩
  replace hB := hB.trans (hb.mono hB.size)
  clear hb
  go_wp2_with fail
  refine (addS (is_S xy) (is_S z) e3 fxy fz fxyz _ (he.below hB)).mono ?_
  rintro e W ⟨rfl, hb⟩
  replace hB := hB.trans (hb.mono hB.size)
  clear hb
  go_wp2_with fail
  refine (addS (is_S y) (is_S z) e4 fy fz fyz _ (he.below hB)).mono ?_
  rintro e W ⟨rfl, hb⟩
  replace hB := hB.trans (hb.mono hB.size)
  clear hb
  go_wp2_with fail
  refine (addS (is_S x) (is_S yz) e5 fx fyz fxyz _ (he.below hB)).mono ?_
  rintro e W ⟨rfl, hb⟩
  replace hB := hB.trans (hb.mono hB.size)
  clear hb
  go_wp2_with fail
  refine (mulS (is_S x) (is_S y) m1 fx fy fp _ (he.below hB)).mono ?_
  rintro e W ⟨rfl, hb⟩
  replace hB := hB.trans (hb.mono hB.size)
  clear hb
  go_wp2_with fail
  refine (mulS (is_S y) (is_S x) m2 fy fx fp _ (he.below hB)).mono ?_
  rintro e W ⟨rfl, hb⟩
  replace hB := hB.trans (hb.mono hB.size)
  clear hb
  go_wp2_with fail
  refine (mulS (is_S p) (is_S z) m3 fp fz fpz _ (he.below hB)).mono ?_
  rintro e W ⟨rfl, hb⟩
  replace hB := hB.trans (hb.mono hB.size)
  clear hb
  go_wp2_with fail
  refine (mulS (is_S y) (is_S z) m4 fy fz fr _ (he.below hB)).mono ?_
  rintro e W ⟨rfl, hb⟩
  replace hB := hB.trans (hb.mono hB.size)
  clear hb
  go_wp2_with fail
  refine (mulS (is_S x) (is_S r) m5 fx fr fpz _ (he.below hB)).mono ?_
  rintro e W ⟨rfl, hb⟩
  replace hB := hB.trans (hb.mono hB.size)
  clear hb
  go_wp2_with fail
  refine (mulS (is_S xy) (is_S z) g1 fxy fz fl _ (he.below hB)).mono ?_
  rintro e W ⟨rfl, hb⟩
  replace hB := hB.trans (hb.mono hB.size)
  clear hb
  go_wp2_with fail
  refine (mulS (is_S x) (is_S z) g2 fx fz fxz _ (he.below hB)).mono ?_
  rintro e W ⟨rfl, hb⟩
  replace hB := hB.trans (hb.mono hB.size)
  clear hb
  go_wp2_with fail
  refine (addS (is_S xz) (is_S r) g3 fxz fr fl _ (he.below hB)).mono ?_
  rintro e W ⟨rfl, hb⟩
  replace hB := hB.trans (hb.mono hB.size)
  clear hb
  go_wp2_with fail
  refine (subS (is_S x) (is_S y) s1 fx fy fd _ (he.below hB)).mono ?_
  rintro e W ⟨rfl, hb⟩
  replace hB := hB.trans (hb.mono hB.size)
  clear hb
  go_wp2_with fail
  refine (addS (is_S d) (is_S y) s2 fd fy fx _ (he.below hB)).mono ?_
  rintro e W ⟨rfl, hb⟩
  replace hB := hB.trans (hb.mono hB.size)
  clear hb
  go_wp2_with fail
  refine (mulS (is_S x) i1 s3 fx f1 fx _ (he.below hB)).mono ?_
  rintro e W ⟨rfl, hb⟩
  replace hB := hB.trans (hb.mono hB.size)
  clear hb
  go_wp2_with fail
  refine (mulS (is_S x) i0 s4 fx f0 f0 _ (he.below hB)).mono ?_
  rintro e W ⟨rfl, hb⟩
  replace hB := hB.trans (hb.mono hB.size)
  clear hb
  rw [S_zero]
  go_wp2
  go_ret
  exact ⟨rfl, hB⟩
end Go.Proofs.YtnfkibgoockmpaaGreatDoor
