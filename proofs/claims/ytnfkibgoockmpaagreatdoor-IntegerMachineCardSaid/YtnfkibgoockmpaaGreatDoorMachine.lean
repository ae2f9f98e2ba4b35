/-
  IntegerMachine: the walk.
-/
import Derived.Test.YtnfkibgoockmpaaGreatDoorLaw2
namespace Go.Proofs.YtnfkibgoockmpaaGreatDoor
open Go Go.RowKit Go.Lib Go.Shelf

/-- Quotients that are cut, made Euclid's. -/
theorem tdiv_facts (a b : Int) (hb : b ≠ 0) : (0 ≤ a.tmod b → a / b = a.tdiv b ∧ a % b = a.tmod b) ∧ (a.tmod b < 0 → 0 < b → a / b = a.tdiv b - 1 ∧ a % b = a.tmod b + b)
    ∧ (a.tmod b < 0 → b < 0 → a / b = a.tdiv b + 1 ∧ a % b = a.tmod b - b) := by
  have h1 := Int.mul_tdiv_add_tmod a b
  have h2 : (a.tmod b).natAbs < b.natAbs := by rw [Int.natAbs_tmod]; exact Nat.mod_lt _ (by omega)
  generalize a.tdiv b = u at *
  generalize a.tmod b = t at *
  refine ⟨fun h => div_of (by omega) h (by omega), fun h hb0 => div_of (by rw [Int.mul_sub]; omega) (by omega) (by omega), fun h hb0 => div_of (by rw [Int.mul_add]; omega) (by omega) (by omega)⟩
set_option maxRecDepth 100000 in
set_option maxHeartbeats 40000000 in
theorem integerMachine_any (a b : Int) (w : World) (he : Env w) (ha0 : -2147483648 ≤ a) (ha1 : a ≤ 2147483647) (hb0 : -2147483648 ≤ b) (hb1 : b ≤ 2147483647) :
    Calls Tryz.prog 10 #[.int .i32 a, .int .i32 b] w (BoolOk true w) := by
  have hB : Below w.heap.size w w := Below.refl _ _
  have i0 : Is ⟨#[48]⟩ 0 := is_zero
  have ja : IsInt a := by unfold IsInt; omega
  have jb : IsInt b := by unfold IsInt; omega
  have fa := (dig_int ja).fits (by omega)
  have fb := (dig_int jb).fits (by omega)
  have js : IsInt (a + b) := by unfold IsInt; omega
  have jd : IsInt (a - b) := by unfold IsInt; omega
  have hab : (a * b).natAbs ≤ 2147483648 * 2147483648 := by
    rw [Int.natAbs_mul]
    exact Nat.mul_le_mul (by omega) (by omega)
  have jp : IsInt (a * b) := by unfold IsInt; omega
  have hw : IntKind.i64.wrap (a * b) = a * b := by rw [IntKind.wrap_i64]; omega
  have fs := (dig_int js).fits (by omega)
  have fd := (dig_int jd).fits (by omega)
  have fp := (dig_int jp).fits (by omega)
  have Ja := Lib.hid ja
  have Jb := Lib.hid jb
  have Js := Lib.hid js
  have Jd := Lib.hid jd
  have Jp := Lib.hid jp
  clear ja jb js jd jp hab
  go_enter Tryz.func10, Tryz.ntmps10
  go_wp2_with fail
  refine (sane_any _ (he.below hB)).mono ?_
  rintro e W ⟨rfl, hb⟩
  replace hB := hB.trans (hb.mono hB.size)
  clear hb
  go_wp2_with fail
  refine (fromIntS Ja _ (he.below hB)).mono ?_
  rintro e W ⟨rfl, hb⟩
  replace hB := hB.trans (hb.mono hB.size)
  clear hb
  go_wp2_with fail
  refine (fromIntS Jb _ (he.below hB)).mono ?_
  rintro e W ⟨rfl, hb⟩
  replace hB := hB.trans (hb.mono hB.size)
  clear hb
  go_wp2_with fail
  refine (toInt_ok (S a) a _ (is_S a) Ja.out (by have := S_size fa; omega)).mono ?_
  rintro e W ⟨rfl, hb⟩
  replace hB := hB.trans (hb.mono hB.size)
  clear hb
  go_wp2_with fail
  refine (addS (is_S a) (is_S b) (Lib.hid rfl) fa fb fs _ (he.below hB)).mono ?_
  rintro e W ⟨rfl, hb⟩
  replace hB := hB.trans (hb.mono hB.size)
  clear hb
  go_wp2_with fail
  refine (subS (is_S a) (is_S b) (Lib.hid rfl) fa fb fd _ (he.below hB)).mono ?_
  rintro e W ⟨rfl, hb⟩
  replace hB := hB.trans (hb.mono hB.size)
  clear hb
  go_wp2_with fail
  refine (mulS (is_S a) (is_S b) (Lib.hid rfl) fa fb fp _ (he.below hB)).mono ?_
  rintro e W ⟨rfl, hb⟩
  replace hB := hB.trans (hb.mono hB.size)
  clear hb
  go_wp2_with fail
  refine (fromIntS Js _ (he.below hB)).mono ?_
  rintro e W ⟨rfl, hb⟩
  replace hB := hB.trans (hb.mono hB.size)
  clear hb
  go_wp2_with fail
  refine (fromIntS Jd _ (he.below hB)).mono ?_
  rintro e W ⟨rfl, hb⟩
  replace hB := hB.trans (hb.mono hB.size)
  clear hb
  go_wp2_with fail
  refine (fromIntS Jp _ (he.below hB)).mono ?_
  rintro e W ⟨rfl, hb⟩
  replace hB := hB.trans (hb.mono hB.size)
  clear hb
  by_cases hb : b = 0
  · subst hb
    rw [S_zero]
    rcases Int.lt_trichotomy a 0 with h | h | h
    · have K : Hid (cmpZ a 0 = -1) := Lib.hid (cmpZ_lt h)
      go_wp2_with fail
      refine (cmpS (is_S a) i0 (c := -1) K fa fb _).mono ?_
      rintro e W ⟨rfl, hb⟩
      replace hB := hB.trans (hb.mono hB.size)
      clear hb
      go_wp2_with fail
      refine (divZ (is_S a) i0 fa _).mono ?_
      rintro e W ⟨rfl, hb⟩
      replace hB := hB.trans (hb.mono hB.size)
      clear hb
      go_wp2
      go_ret
      exact ⟨rfl, hB⟩
    · have K : Hid (cmpZ a 0 = 0) := Lib.hid (cmpZ_eq h)
      have q1 : decide (a < 0) = false := by simp; omega
      have q2 : decide (0 < a) = false := by simp; omega
      clear h
      go_wp2_with fail
      refine (cmpS (is_S a) i0 (c := 0) K fa fb _).mono ?_
      rintro e W ⟨rfl, hb⟩
      replace hB := hB.trans (hb.mono hB.size)
      clear hb
      go_wp2_with fail
      refine (divZ (is_S a) i0 fa _).mono ?_
      rintro e W ⟨rfl, hb⟩
      replace hB := hB.trans (hb.mono hB.size)
      clear hb
      go_wp2
      go_ret
      exact ⟨rfl, hB⟩
    · have K : Hid (cmpZ a 0 = 1) := Lib.hid (cmpZ_gt h)
      go_wp2_with fail
      refine (cmpS (is_S a) i0 (c := 1) K fa fb _).mono ?_
      rintro e W ⟨rfl, hb⟩
      replace hB := hB.trans (hb.mono hB.size)
      clear hb
      go_wp2_with fail
      refine (divZ (is_S a) i0 fa _).mono ?_
      rintro e W ⟨rfl, hb⟩
      replace hB := hB.trans (hb.mono hB.size)
      clear hb
      go_wp2
      go_ret
      exact ⟨rfl, hB⟩
  · obtain ⟨F1, F2, F3⟩ := tdiv_facts a b hb
    have hu : (a.tdiv b).natAbs ≤ a.natAbs := by rw [Int.natAbs_tdiv]; exact Nat.div_le_self _ _
    have ht : (a.tmod b).natAbs < b.natAbs := by rw [Int.natAbs_tmod]; exact Nat.mod_lt _ (by omega)
    obtain ⟨u, eu⟩ : ∃ u, a.tdiv b = u := ⟨_, rfl⟩
    obtain ⟨t, et⟩ : ∃ u, a.tmod b = u := ⟨_, rfl⟩
    rw [eu] at F1 F2 F3 hu
    rw [et] at F1 F2 F3 ht
    have hne : (b == 0) = false := by simpa using hb
    have hb' := Lib.hid hb
    have u0 : -2147483648 ≤ u := by omega
    have u1 : u ≤ 2147483648 := by omega
    have t0 : -2147483648 ≤ t := by omega
    have t1 : t ≤ 2147483648 := by omega
    by_cases hs : 0 ≤ t
    · have hs' : (decide (t < 0)) = false := by simp; omega
      obtain ⟨Q', R'⟩ := F1 hs
      have Q := Lib.hid Q'
      have R := Lib.hid R'
      clear Q' R'
      have JQ : Hid (IsInt (u)) := Lib.hid (by unfold IsInt; omega)
      have JR : Hid (IsInt (t)) := Lib.hid (by unfold IsInt; omega)
      clear F1 F2 F3 hu ht hb
      rcases Int.lt_trichotomy a b with h | h | h
      · have K : Hid (cmpZ a b = -1) := Lib.hid (cmpZ_lt h)
        go_wp2_with fail
        refine (cmpS (is_S a) (is_S b) (c := -1) K fa fb _).mono ?_
        rintro e W ⟨rfl, hb⟩
        replace hB := hB.trans (hb.mono hB.size)
        clear hb
        go_wp2_with fail
        refine (divS (is_S a) (is_S b) (q := u) (r := t) Q R fa fb hb' _ (he.below hB)).mono ?_
        rintro e W ⟨rfl, hb⟩
        replace hB := hB.trans (hb.mono hB.size)
        clear hb
        go_wp2_with fail
        refine (fromIntS (n := u) JQ _ (he.below hB)).mono ?_
        rintro e W ⟨rfl, hb⟩
        replace hB := hB.trans (hb.mono hB.size)
        clear hb
        go_wp2_with fail
        refine (fromIntS (n := t) JR _ (he.below hB)).mono ?_
        rintro e W ⟨rfl, hb⟩
        replace hB := hB.trans (hb.mono hB.size)
        clear hb
        go_wp2
        go_ret
        exact ⟨rfl, hB⟩
      · have K : Hid (cmpZ a b = 0) := Lib.hid (cmpZ_eq h)
        have q1 : decide (a < b) = false := by simp; omega
        have q2 : decide (b < a) = false := by simp; omega
        clear h
        go_wp2_with fail
        refine (cmpS (is_S a) (is_S b) (c := 0) K fa fb _).mono ?_
        rintro e W ⟨rfl, hb⟩
        replace hB := hB.trans (hb.mono hB.size)
        clear hb
        go_wp2_with fail
        refine (divS (is_S a) (is_S b) (q := u) (r := t) Q R fa fb hb' _ (he.below hB)).mono ?_
        rintro e W ⟨rfl, hb⟩
        replace hB := hB.trans (hb.mono hB.size)
        clear hb
        go_wp2_with fail
        refine (fromIntS (n := u) JQ _ (he.below hB)).mono ?_
        rintro e W ⟨rfl, hb⟩
        replace hB := hB.trans (hb.mono hB.size)
        clear hb
        go_wp2_with fail
        refine (fromIntS (n := t) JR _ (he.below hB)).mono ?_
        rintro e W ⟨rfl, hb⟩
        replace hB := hB.trans (hb.mono hB.size)
        clear hb
        go_wp2
        go_ret
        exact ⟨rfl, hB⟩
      · have K : Hid (cmpZ a b = 1) := Lib.hid (cmpZ_gt h)
        go_wp2_with fail
        refine (cmpS (is_S a) (is_S b) (c := 1) K fa fb _).mono ?_
        rintro e W ⟨rfl, hb⟩
        replace hB := hB.trans (hb.mono hB.size)
        clear hb
        go_wp2_with fail
        refine (divS (is_S a) (is_S b) (q := u) (r := t) Q R fa fb hb' _ (he.below hB)).mono ?_
        rintro e W ⟨rfl, hb⟩
        replace hB := hB.trans (hb.mono hB.size)
        clear hb
        go_wp2_with fail
        refine (fromIntS (n := u) JQ _ (he.below hB)).mono ?_
        rintro e W ⟨rfl, hb⟩
        replace hB := hB.trans (hb.mono hB.size)
        clear hb
        go_wp2_with fail
        refine (fromIntS (n := t) JR _ (he.below hB)).mono ?_
        rintro e W ⟨rfl, hb⟩
        replace hB := hB.trans (hb.mono hB.size)
        clear hb
        go_wp2
        go_ret
        exact ⟨rfl, hB⟩
    · have hs : t < 0 := by omega
      rcases Int.lt_or_lt_of_ne hb with hn | hn
      · obtain ⟨Q', R'⟩ := F3 hs hn
        have Q := Lib.hid Q'
        have R := Lib.hid R'
        clear Q' R'
        have JQ : Hid (IsInt (u + 1)) := Lib.hid (by unfold IsInt; omega)
        have JR : Hid (IsInt (t - b)) := Lib.hid (by unfold IsInt; omega)
        clear F1 F2 F3 hu ht hb
        rcases Int.lt_trichotomy a b with h | h | h
        · have K : Hid (cmpZ a b = -1) := Lib.hid (cmpZ_lt h)
          go_wp2_with fail
          refine (cmpS (is_S a) (is_S b) (c := -1) K fa fb _).mono ?_
          rintro e W ⟨rfl, hb⟩
          replace hB := hB.trans (hb.mono hB.size)
          clear hb
          go_wp2_with fail
          refine (divS (is_S a) (is_S b) (q := u + 1) (r := t - b) Q R fa fb hb' _ (he.below hB)).mono ?_
          rintro e W ⟨rfl, hb⟩
          replace hB := hB.trans (hb.mono hB.size)
          clear hb
          go_wp2_with fail
          refine (fromIntS (n := u + 1) JQ _ (he.below hB)).mono ?_
          rintro e W ⟨rfl, hb⟩
          replace hB := hB.trans (hb.mono hB.size)
          clear hb
          go_wp2_with fail
          refine (fromIntS (n := t - b) JR _ (he.below hB)).mono ?_
          rintro e W ⟨rfl, hb⟩
          replace hB := hB.trans (hb.mono hB.size)
          clear hb
          go_wp2
          go_ret
          exact ⟨rfl, hB⟩
        · have K : Hid (cmpZ a b = 0) := Lib.hid (cmpZ_eq h)
          have q1 : decide (a < b) = false := by simp; omega
          have q2 : decide (b < a) = false := by simp; omega
          clear h
          go_wp2_with fail
          refine (cmpS (is_S a) (is_S b) (c := 0) K fa fb _).mono ?_
          rintro e W ⟨rfl, hb⟩
          replace hB := hB.trans (hb.mono hB.size)
          clear hb
          go_wp2_with fail
          refine (divS (is_S a) (is_S b) (q := u + 1) (r := t - b) Q R fa fb hb' _ (he.below hB)).mono ?_
          rintro e W ⟨rfl, hb⟩
          replace hB := hB.trans (hb.mono hB.size)
          clear hb
          go_wp2_with fail
          refine (fromIntS (n := u + 1) JQ _ (he.below hB)).mono ?_
          rintro e W ⟨rfl, hb⟩
          replace hB := hB.trans (hb.mono hB.size)
          clear hb
          go_wp2_with fail
          refine (fromIntS (n := t - b) JR _ (he.below hB)).mono ?_
          rintro e W ⟨rfl, hb⟩
          replace hB := hB.trans (hb.mono hB.size)
          clear hb
          go_wp2
          go_ret
          exact ⟨rfl, hB⟩
        · have K : Hid (cmpZ a b = 1) := Lib.hid (cmpZ_gt h)
          go_wp2_with fail
          refine (cmpS (is_S a) (is_S b) (c := 1) K fa fb _).mono ?_
          rintro e W ⟨rfl, hb⟩
          replace hB := hB.trans (hb.mono hB.size)
          clear hb
          go_wp2_with fail
          refine (divS (is_S a) (is_S b) (q := u + 1) (r := t - b) Q R fa fb hb' _ (he.below hB)).mono ?_
          rintro e W ⟨rfl, hb⟩
          replace hB := hB.trans (hb.mono hB.size)
          clear hb
          go_wp2_with fail
          refine (fromIntS (n := u + 1) JQ _ (he.below hB)).mono ?_
          rintro e W ⟨rfl, hb⟩
          replace hB := hB.trans (hb.mono hB.size)
          clear hb
          go_wp2_with fail
          refine (fromIntS (n := t - b) JR _ (he.below hB)).mono ?_
          rintro e W ⟨rfl, hb⟩
          replace hB := hB.trans (hb.mono hB.size)
          clear hb
          go_wp2
          go_ret
          exact ⟨rfl, hB⟩
      · obtain ⟨Q', R'⟩ := F2 hs hn
        have Q := Lib.hid Q'
        have R := Lib.hid R'
        clear Q' R'
        have htb : 0 ≤ t + b := by omega
        have JQ : Hid (IsInt (u - 1)) := Lib.hid (by unfold IsInt; omega)
        have JR : Hid (IsInt (t + b)) := Lib.hid (by unfold IsInt; omega)
        clear F1 F2 F3 hu ht hb
        rcases Int.lt_trichotomy a b with h | h | h
        · have K : Hid (cmpZ a b = -1) := Lib.hid (cmpZ_lt h)
          go_wp2_with fail
          refine (cmpS (is_S a) (is_S b) (c := -1) K fa fb _).mono ?_
          rintro e W ⟨rfl, hb⟩
          replace hB := hB.trans (hb.mono hB.size)
          clear hb
          go_wp2_with fail
          refine (divS (is_S a) (is_S b) (q := u - 1) (r := t + b) Q R fa fb hb' _ (he.below hB)).mono ?_
          rintro e W ⟨rfl, hb⟩
          replace hB := hB.trans (hb.mono hB.size)
          clear hb
          go_wp2_with fail
          refine (fromIntS (n := u - 1) JQ _ (he.below hB)).mono ?_
          rintro e W ⟨rfl, hb⟩
          replace hB := hB.trans (hb.mono hB.size)
          clear hb
          go_wp2_with fail
          refine (fromIntS (n := t + b) JR _ (he.below hB)).mono ?_
          rintro e W ⟨rfl, hb⟩
          replace hB := hB.trans (hb.mono hB.size)
          clear hb
          go_wp2
          go_ret
          exact ⟨rfl, hB⟩
        · have K : Hid (cmpZ a b = 0) := Lib.hid (cmpZ_eq h)
          have q1 : decide (a < b) = false := by simp; omega
          have q2 : decide (b < a) = false := by simp; omega
          clear h
          go_wp2_with fail
          refine (cmpS (is_S a) (is_S b) (c := 0) K fa fb _).mono ?_
          rintro e W ⟨rfl, hb⟩
          replace hB := hB.trans (hb.mono hB.size)
          clear hb
          go_wp2_with fail
          refine (divS (is_S a) (is_S b) (q := u - 1) (r := t + b) Q R fa fb hb' _ (he.below hB)).mono ?_
          rintro e W ⟨rfl, hb⟩
          replace hB := hB.trans (hb.mono hB.size)
          clear hb
          go_wp2_with fail
          refine (fromIntS (n := u - 1) JQ _ (he.below hB)).mono ?_
          rintro e W ⟨rfl, hb⟩
          replace hB := hB.trans (hb.mono hB.size)
          clear hb
          go_wp2_with fail
          refine (fromIntS (n := t + b) JR _ (he.below hB)).mono ?_
          rintro e W ⟨rfl, hb⟩
          replace hB := hB.trans (hb.mono hB.size)
          clear hb
          go_wp2
          go_ret
          exact ⟨rfl, hB⟩
        · have K : Hid (cmpZ a b = 1) := Lib.hid (cmpZ_gt h)
          go_wp2_with fail
          refine (cmpS (is_S a) (is_S b) (c := 1) K fa fb _).mono ?_
          rintro e W ⟨rfl, hb⟩
          replace hB := hB.trans (hb.mono hB.size)
          clear hb
          go_wp2_with fail
          refine (divS (is_S a) (is_S b) (q := u - 1) (r := t + b) Q R fa fb hb' _ (he.below hB)).mono ?_
          rintro e W ⟨rfl, hb⟩
          replace hB := hB.trans (hb.mono hB.size)
          clear hb
          go_wp2_with fail
          refine (fromIntS (n := u - 1) JQ _ (he.below hB)).mono ?_
          rintro e W ⟨rfl, hb⟩
          replace hB := hB.trans (hb.mono hB.size)
          clear hb
          go_wp2_with fail
          refine (fromIntS (n := t + b) JR _ (he.below hB)).mono ?_
          rintro e W ⟨rfl, hb⟩
          replace hB := hB.trans (hb.mono hB.size)
          clear hb
          go_wp2
          go_ret
          exact ⟨rfl, hB⟩
end Go.Proofs.YtnfkibgoockmpaaGreatDoor
