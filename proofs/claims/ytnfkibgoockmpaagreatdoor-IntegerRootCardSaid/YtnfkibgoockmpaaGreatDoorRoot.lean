/-
  IntegerRoot: the walk.
-/
import Derived.Test.YtnfkibgoockmpaaGreatDoorSane
import Derived.Test.YtnfkibgoockmpaaGreatDoorRefT
namespace Go.Proofs.YtnfkibgoockmpaaGreatDoor
open Go Go.RowKit Go.Lib Go.Shelf

theorem mul_self_nn (x : Int) : 0 ≤ x * x := by
  rcases Int.le_total 0 x with h | h
  · exact Int.mul_nonneg h h
  · exact Int.mul_nonneg_of_nonpos_of_nonpos h h
set_option maxRecDepth 100000 in
set_option maxHeartbeats 4000000 in
theorem integerRoot_any (a : ByteArray) (w : World) (he : Env w) (hsa : a.size ≤ 9223372036854775807) :
    Calls Tryz.prog 6 #[.string a] w (BoolOk true w) := by
  have i0 : Is ⟨#[48]⟩ 0 := is_zero
  have i1 : Is ⟨#[49]⟩ 1 := is_lit (by decide) (by decide)
  have f0 : Fits 0 := fits_zero
  have f1 : Fits 1 := fits_lit (by decide)
  have hB : Below w.heap.size w w := Below.refl _ _
  go_enter Tryz.func6, Tryz.ntmps6
  go_wp2_with fail
  refine (sane_any _ (he.below hB)).mono ?_
  rintro e W ⟨rfl, hb⟩
  replace hB := hB.trans (hb.mono hB.size)
  clear hb
  go_wp2_with fail
  refine (made_any a 80 _ (by omega) (by omega)).mono ?_
  rintro e W ⟨x, rfl, dx, hb⟩
  replace hB := hB.trans (hb.mono hB.size)
  clear hb
  have fx := dx.fits (by omega)
  obtain ⟨q, hq⟩ : ∃ v, v = x * x := ⟨_, rfl⟩
  have dq : Dig 160 q := by rw [hq]; exact dx.mul dx
  have fq := dq.fits (by omega)
  have e1 := Lib.hid hq.symm
  have r1 : Hid (0 ≤ q ∧ 0 ≤ ((x.natAbs : Nat) : Int) ∧ IsRoot q.natAbs ((x.natAbs : Nat) : Int).natAbs) := Lib.hid ⟨by rw [hq]; exact mul_self_nn x, by omega, by rw [hq, Int.natAbs_natCast]; exact isRoot_sq x⟩
  clear hq
  rcases Int.lt_or_le x 0 with h | h
  · obtain ⟨s, hs⟩ : ∃ s, s = -x := ⟨_, rfl⟩
    have ds : Dig 80 s := by rw [hs]; exact dx.neg
    have fs := ds.fits (by omega)
    have r2 : Hid (0 ≤ q ∧ 0 ≤ s ∧ IsRoot q.natAbs s.natAbs) := Lib.hid ⟨r1.out.1, by omega, by rw [show s.natAbs = ((x.natAbs : Nat) : Int).natAbs by omega]; exact r1.out.2.2⟩
    have e2 : Hid (s + x = 0) := Lib.hid (by omega)
    have ns := S_ne (show s ≠ x by omega)
    have hx0 := Lib.hid h
    have k1 : Hid (cmpZ x 0 = -1) := Lib.hid (cmpZ_lt h)
    clear hs h r1
    go_wp2_with fail
    refine (rootN (is_S x) fx hx0 _).mono ?_
    rintro e W ⟨rfl, hb⟩
    replace hB := hB.trans (hb.mono hB.size)
    clear hb
    go_wp2_with fail
    refine (mulS (is_S x) (is_S x) e1 fx fx fq _ (he.below hB)).mono ?_
    rintro e W ⟨rfl, hb⟩
    replace hB := hB.trans (hb.mono hB.size)
    clear hb
    go_wp2_with fail
    refine (rootS (is_S q) (r := s) r2 fq _ (he.below hB)).mono ?_
    rintro e W ⟨rfl, hb⟩
    replace hB := hB.trans (hb.mono hB.size)
    clear hb
    go_wp2_with fail
    refine (addS (is_S s) (is_S x) e2 fs fx f0 _ (he.below hB)).mono ?_
    rintro e W ⟨rfl, hb⟩
    replace hB := hB.trans (hb.mono hB.size)
    clear hb
    rw [S_zero]
    go_wp2_with fail
    refine (cmpS (is_S x) i0 (c := -1) k1 fx f0 _).mono ?_
    rintro e W ⟨rfl, hb⟩
    replace hB := hB.trans (hb.mono hB.size)
    clear hb
    go_wp2
    go_ret
    exact ⟨rfl, hB⟩
  · obtain ⟨R, hR⟩ := exists_root x.natAbs
    obtain ⟨r, hr⟩ : ∃ r : Int, r = R := ⟨_, rfl⟩
    have hR' := hR
    obtain ⟨hR1, hR2⟩ := hR'
    have dr : Dig 80 r := dx.of_le (by rw [hr, Int.natAbs_natCast]; exact Nat.le_trans (Nat.le_mul_self R) hR1)
    have fr := dr.fits (by omega)
    have r2 : Hid (0 ≤ x ∧ 0 ≤ r ∧ IsRoot x.natAbs r.natAbs) := Lib.hid ⟨h, by omega, by rw [hr, Int.natAbs_natCast]; exact hR⟩
    have r3 : Hid (0 ≤ q ∧ 0 ≤ x ∧ IsRoot q.natAbs x.natAbs) := Lib.hid ⟨r1.out.1, h, by have := r1.out.2.2; rwa [Int.natAbs_natCast] at this⟩
    obtain ⟨b, hb'⟩ : ∃ b, b = x + x := ⟨_, rfl⟩
    have db : Dig 81 b := by rw [hb']; exact dx.add dx
    have fb := db.fits (by omega)
    obtain ⟨lo, hlo⟩ : ∃ b, b = r * r := ⟨_, rfl⟩
    have dlo : Dig 160 lo := by rw [hlo]; exact dr.mul dr
    have flo := dlo.fits (by omega)
    obtain ⟨n, hn⟩ : ∃ b, b = r + 1 := ⟨_, rfl⟩
    have dn : Dig 81 n := by rw [hn]; exact dr.add (dig_small (by decide) (by omega))
    have fn := dn.fits (by omega)
    obtain ⟨hi, hhi⟩ : ∃ b, b = n * n := ⟨_, rfl⟩
    have dhi : Dig 162 hi := by rw [hhi]; exact dn.mul dn
    have fhi := dhi.fits (by omega)
    have e2 := Lib.hid hb'.symm
    have e3 := Lib.hid hlo.symm
    have e4 := Lib.hid hn.symm
    have e5 := Lib.hid hhi.symm
    have hle : lo ≤ x := by
      have : ((R * R : Nat) : Int) ≤ (x.natAbs : Int) := Int.ofNat_le.2 hR1
      rw [hlo, hr, ← Int.natCast_mul]; omega
    have hgt : x < hi := by
      have : (x.natAbs : Int) < (((R + 1) * (R + 1) : Nat) : Int) := Int.ofNat_lt.2 hR2
      rw [hhi, hn, hr, show ((R : Int) + 1) = ((R + 1 : Nat) : Int) by simp, ← Int.natCast_mul]; omega
    have k0 : ∃ c, cmpZ x 0 = c ∧ 0 ≤ c := ⟨_, rfl, by unfold cmpZ; split <;> (try split) <;> omega⟩
    obtain ⟨c0, k0, hc0⟩ := k0
    have k1 : ∃ c, cmpZ lo x = c ∧ c ≤ 0 := ⟨_, rfl, by unfold cmpZ; split <;> (try split) <;> omega⟩
    obtain ⟨c1, k1, hc1⟩ := k1
    have K0 := Lib.hid k0
    have K1 := Lib.hid k1
    have K2 : Hid (cmpZ hi x = 1) := Lib.hid (cmpZ_gt hgt)
    clear hR hR1 hR2 hr h r1 hb' hlo hn hhi hle hgt k0 k1
    go_wp2_with fail
    refine (rootS (is_S x) (r := r) r2 fx _ (he.below hB)).mono ?_
    rintro e W ⟨rfl, hb⟩
    replace hB := hB.trans (hb.mono hB.size)
    clear hb
    go_wp2_with fail
    refine (mulS (is_S x) (is_S x) e1 fx fx fq _ (he.below hB)).mono ?_
    rintro e W ⟨rfl, hb⟩
    replace hB := hB.trans (hb.mono hB.size)
    clear hb
    go_wp2_with fail
    refine (rootS (is_S q) (r := x) r3 fq _ (he.below hB)).mono ?_
    rintro e W ⟨rfl, hb⟩
    replace hB := hB.trans (hb.mono hB.size)
    clear hb
    go_wp2_with fail
    refine (addS (is_S x) (is_S x) e2 fx fx fb _ (he.below hB)).mono ?_
    rintro e W ⟨rfl, hb⟩
    replace hB := hB.trans (hb.mono hB.size)
    clear hb
    go_wp2_with fail
    refine (cmpS (is_S x) i0 (c := c0) K0 fx f0 _).mono ?_
    rintro e W ⟨rfl, hb⟩
    replace hB := hB.trans (hb.mono hB.size)
    clear hb
    go_wp2_with fail
    refine (mulS (is_S r) (is_S r) e3 fr fr flo _ (he.below hB)).mono ?_
    rintro e W ⟨rfl, hb⟩
    replace hB := hB.trans (hb.mono hB.size)
    clear hb
    go_wp2_with fail
    refine (addS (is_S r) i1 e4 fr f1 fn _ (he.below hB)).mono ?_
    rintro e W ⟨rfl, hb⟩
    replace hB := hB.trans (hb.mono hB.size)
    clear hb
    go_wp2_with fail
    refine (mulS (is_S n) (is_S n) e5 fn fn fhi _ (he.below hB)).mono ?_
    rintro e W ⟨rfl, hb⟩
    replace hB := hB.trans (hb.mono hB.size)
    clear hb
    go_wp2_with fail
    refine (cmpS (is_S lo) (is_S x) (c := c1) K1 flo fx _).mono ?_
    rintro e W ⟨rfl, hb⟩
    replace hB := hB.trans (hb.mono hB.size)
    clear hb
    go_wp2_with fail
    refine (cmpS (is_S hi) (is_S x) (c := 1) K2 fhi fx _).mono ?_
    rintro e W ⟨rfl, hb⟩
    replace hB := hB.trans (hb.mono hB.size)
    clear hb
    go_wp2
    go_ret
    exact ⟨rfl, hB⟩
end Go.Proofs.YtnfkibgoockmpaaGreatDoor
