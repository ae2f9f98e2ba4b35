/-
  sane: the fixed examples that each law checks first.
-/
import Derived.Test.YtnfkibgoockmpaaGreatDoorLaw
namespace Go.Proofs.YtnfkibgoockmpaaGreatDoor
open Go Go.RowKit Go.Lib Go.Shelf

theorem fits_lit {z : Int} (h : z.natAbs < 100000) : Fits z := Nat.lt_trans h (by decide +kernel)
set_option maxRecDepth 100000 in
set_option maxHeartbeats 4000000 in
theorem sane_any (w : World) (he : Env w) : Calls Tryz.prog 12 #[] w (BoolOk true w) := by
  have i999 : Is ⟨#[57, 57, 57]⟩ (999) := is_lit (by decide) (by decide)
  have i1 : Is ⟨#[49]⟩ (1) := is_lit (by decide) (by decide)
  have i1000 : Is ⟨#[49, 48, 48, 48]⟩ (1000) := is_lit (by decide) (by decide)
  have in999 : Is ⟨#[45, 57, 57, 57]⟩ (-999) := is_lit (by decide) (by decide)
  have in12 : Is ⟨#[45, 49, 50]⟩ (-12) := is_lit (by decide) (by decide)
  have i12 : Is ⟨#[49, 50]⟩ (12) := is_lit (by decide) (by decide)
  have in144 : Is ⟨#[45, 49, 52, 52]⟩ (-144) := is_lit (by decide) (by decide)
  have in7 : Is ⟨#[45, 55]⟩ (-7) := is_lit (by decide) (by decide)
  have i2 : Is ⟨#[50]⟩ (2) := is_lit (by decide) (by decide)
  have in4 : Is ⟨#[45, 52]⟩ (-4) := is_lit (by decide) (by decide)
  have in2 : Is ⟨#[45, 50]⟩ (-2) := is_lit (by decide) (by decide)
  have i4 : Is ⟨#[52]⟩ (4) := is_lit (by decide) (by decide)
  have in18 : Is ⟨#[45, 49, 56]⟩ (-18) := is_lit (by decide) (by decide)
  have i6 : Is ⟨#[54]⟩ (6) := is_lit (by decide) (by decide)
  have i99 : Is ⟨#[57, 57]⟩ (99) := is_lit (by decide) (by decide)
  have i9 : Is ⟨#[57]⟩ (9) := is_lit (by decide) (by decide)
  have in1 : Is ⟨#[45, 49]⟩ (-1) := is_lit (by decide) (by decide)
  have in8 : Is ⟨#[45, 56]⟩ (-8) := is_lit (by decide) (by decide)
  have hB : Below w.heap.size w w := Below.refl _ _
  go_enter Tryz.func12, Tryz.ntmps12
  go_wp2_with fail
  refine (addS i999 i1 (v := 1000) (Lib.hid (by decide)) (fits_lit (by decide)) (fits_lit (by decide)) (fits_lit (by decide)) _ (he.below hB)).mono ?_
  rintro e W ⟨rfl, hb⟩
  replace hB := hB.trans (hb.mono hB.size)
  clear hb
  rw [← i1000.eq]
  go_wp2_with fail
  refine (subS i1 i1000 (v := -999) (Lib.hid (by decide)) (fits_lit (by decide)) (fits_lit (by decide)) (fits_lit (by decide)) _ (he.below hB)).mono ?_
  rintro e W ⟨rfl, hb⟩
  replace hB := hB.trans (hb.mono hB.size)
  clear hb
  rw [← in999.eq]
  go_wp2_with fail
  refine (mulS in12 i12 (v := -144) (Lib.hid (by decide)) (fits_lit (by decide)) (fits_lit (by decide)) (fits_lit (by decide)) _ (he.below hB)).mono ?_
  rintro e W ⟨rfl, hb⟩
  replace hB := hB.trans (hb.mono hB.size)
  clear hb
  rw [← in144.eq]
  go_wp2_with fail
  refine (divS in7 i2 (q := -4) (r := 1) (Lib.hid (by decide)) (Lib.hid (by decide)) (fits_lit (by decide)) (fits_lit (by decide)) (Lib.hid (by decide)) _ (he.below hB)).mono ?_
  rintro e W ⟨rfl, hb⟩
  replace hB := hB.trans (hb.mono hB.size)
  clear hb
  rw [← in4.eq]
  rw [← i1.eq]
  go_wp2_with fail
  refine (divS in7 in2 (q := 4) (r := 1) (Lib.hid (by decide)) (Lib.hid (by decide)) (fits_lit (by decide)) (fits_lit (by decide)) (Lib.hid (by decide)) _ (he.below hB)).mono ?_
  rintro e W ⟨rfl, hb⟩
  replace hB := hB.trans (hb.mono hB.size)
  clear hb
  rw [← i4.eq]
  rw [← i1.eq]
  go_wp2_with fail
  refine (gcdS i12 in18 (v := 6) (Lib.hid (by decide)) (fits_lit (by decide)) (fits_lit (by decide)) _ (he.below hB)).mono ?_
  rintro e W ⟨rfl, hb⟩
  replace hB := hB.trans (hb.mono hB.size)
  clear hb
  rw [← i6.eq]
  go_wp2_with fail
  refine (rootS (x := 99) (r := 9) i99 (Lib.hid ⟨by decide, by decide, by unfold IsRoot; decide⟩) (fits_lit (by decide)) _ (he.below hB)).mono ?_
  rintro e W ⟨rfl, hb⟩
  replace hB := hB.trans (hb.mono hB.size)
  clear hb
  rw [← i9.eq]
  go_wp2_with fail
  refine (rootN in1 (fits_lit (by decide)) (Lib.hid (by decide)) _).mono ?_
  rintro e W ⟨rfl, hb⟩
  replace hB := hB.trans (hb.mono hB.size)
  clear hb
  go_wp2_with fail
  refine (addBad (a := ⟨#[48, 48, 55]⟩) (b := ⟨#[49]⟩) (by decide) (by decide) (by decide) _).mono ?_
  rintro e W ⟨rfl, hb⟩
  replace hB := hB.trans (hb.mono hB.size)
  clear hb
  go_wp2_with fail
  refine (validS (c := true) (Lib.hid (by decide)) (by decide) _).mono ?_
  rintro e W ⟨rfl, hb⟩
  replace hB := hB.trans (hb.mono hB.size)
  clear hb
  go_wp2_with fail
  refine (validS (c := false) (Lib.hid (by decide)) (by decide) _).mono ?_
  rintro e W ⟨rfl, hb⟩
  replace hB := hB.trans (hb.mono hB.size)
  clear hb
  go_wp2_with fail
  refine (validS (c := false) (Lib.hid (by decide)) (by decide) _).mono ?_
  rintro e W ⟨rfl, hb⟩
  replace hB := hB.trans (hb.mono hB.size)
  clear hb
  go_wp2_with fail
  refine (cmpS in8 in7 (c := -1) (Lib.hid (by decide)) (fits_lit (by decide)) (fits_lit (by decide)) _).mono ?_
  rintro e W ⟨rfl, hb⟩
  replace hB := hB.trans (hb.mono hB.size)
  clear hb
  go_wp2
  go_ret
  exact ⟨rfl, hB⟩
end Go.Proofs.YtnfkibgoockmpaaGreatDoor
