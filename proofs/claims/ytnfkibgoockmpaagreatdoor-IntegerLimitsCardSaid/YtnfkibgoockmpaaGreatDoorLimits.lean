/-
  IntegerLimits: the walk.
-/
import Derived.Test.YtnfkibgoockmpaaGreatDoorNines
namespace Go.Proofs.YtnfkibgoockmpaaGreatDoor
open Go Go.RowKit Go.Lib Go.Shelf

theorem bad_empty : (validB (⟨#[]⟩ : ByteArray).data.toList && validB (⟨#[49]⟩ : ByteArray).data.toList) = false := by decide
set_option maxRecDepth 100000 in
set_option maxHeartbeats 4000000 in
theorem integerLimits_any (a : ByteArray) (m n : Int) (w : World) (he : Env w) (hsa : a.size ≤ 9223372036854775807) (hm0 : -9223372036854775808 ≤ m) (hm1 : m ≤ 9223372036854775807) (hn0 : -9223372036854775808 ≤ n) (hn1 : n ≤ 9223372036854775807) :
    Calls Tryz.prog 8 #[.string a, .int .i64 m, .int .i64 n] w (BoolOk true w) := by
  have i0 : Is ⟨#[48]⟩ 0 := is_zero
  have i1 : Is ⟨#[49]⟩ 1 := is_lit (by decide) (by decide)
  have f0 : Fits 0 := fits_zero
  have f1 : Fits 1 := fits_lit (by decide)
  have hB : Below w.heap.size w w := Below.refl _ _
  obtain ⟨T, hT, fT, hT0, hT1⟩ := most_facts
  have nT : nn 200 = S T := by rw [hT]; exact (is_nn 200 (by omega)).eq
  have HnT := Lib.hid nT
  have HM : Hid ((⟨#[45]⟩ : ByteArray) ++ S T = S (-T)) := Lib.hid (is_minus (by omega)).eq
  have HO : Hid (S T ++ (⟨#[57]⟩ : ByteArray) = nn 201) := Lib.hid (by rw [← nT]; exact nn_succ 200)
  have hsT := S_size fT
  have fM : Fits (-T) := (hT1 _).2 (by omega)
  have HT := Lib.hid hT1
  have VM := Lib.hid ((is_S (-T)).valid fM)
  have sM := (is_S (-T)).str fM
  clear hT nT hT1
  go_enter Tryz.func8, Tryz.ntmps8
  go_wp2_with fail
  refine (sane_any _ (he.below hB)).mono ?_
  rintro e W ⟨rfl, hb⟩
  replace hB := hB.trans (hb.mono hB.size)
  clear hb
  go_wp2_with fail
  refine (made_any a 5 _ (by omega) (by omega)).mono ?_
  rintro e W ⟨x, rfl, dx, hb⟩
  replace hB := hB.trans (hb.mono hB.size)
  clear hb
  have fx := dx.fits (by omega)
  have dx' : x.natAbs < 100000 := dx
  go_wp2_with fail
  refine (nines_any 200 _ (by omega)).mono ?_
  rintro e W ⟨rfl, rfl⟩
  rw [HnT.out]
  by_cases hx : 0 < x
  · have ng1 : ¬ Fits (T + x) := fun e => by have := (HT.out _).1 e; omega
    have ng2 : ¬ Fits (-T - x) := fun e => by have := (HT.out _).1 e; omega
    have K0 : Hid (cmpZ x 0 = 1) := Lib.hid (cmpZ_gt hx)
    have NG1 := Lib.hid ng1
    have NG2 := Lib.hid ng2
    clear ng1 ng2
    go_wp2_with fail
    refine (addBig (is_S T) (is_S x) fT fx NG1.out _ (he.below hB)).mono ?_
    rintro e W ⟨rfl, hb⟩
    replace hB := hB.trans (hb.mono hB.size)
    clear hb
    have hc4 := HM.out
    go_wp2_with fail
    refine (subBig (is_S (-T)) (is_S x) fM fx NG2.out _ (he.below hB)).mono ?_
    rintro e W ⟨rfl, hb⟩
    replace hB := hB.trans (hb.mono hB.size)
    clear hb
    clear hc4
    go_wp2_with fail
    refine (pick_any m _ hm0 hm1).mono ?_
    rintro e W ⟨⟨M, hM, rfl⟩, rfl⟩
    go_wp2_with fail
    refine (pick_any n _ hn0 hn1).mono ?_
    rintro e W ⟨⟨N, hN, rfl⟩, rfl⟩
    obtain ⟨P, hP⟩ : ∃ P, P = (10 : Int) ^ M := ⟨_, rfl⟩
    have fP : Fits P := by rw [hP]; exact (pow_dig M).fits (by omega)
    obtain ⟨Q, hQ⟩ : ∃ Q, Q = 2 * (10 : Int) ^ N - 1 := ⟨_, rfl⟩
    have fQ : Fits Q := by rw [hQ]; exact two_fits hN
    obtain ⟨R, hR⟩ : ∃ R, R = P * Q := ⟨_, rfl⟩
    have hfit : Fits R ↔ M + N < 200 := by rw [hR, hP, hQ]; exact prod_fits M N
    have hsz : (S R).size = M + N + 1 := by rw [hR, hP, hQ]; exact prod_size M N
    have HR := Lib.hid hR.symm
    have HQ2 : Hid ((⟨#[49]⟩ : ByteArray) ++ nn N = S Q) := Lib.hid (by rw [hQ]; exact (is_one_nn N).eq)
    have HP := Lib.hid hP
    have HSZ := Lib.hid hsz
    have HF := Lib.hid hfit
    clear hP hQ hR hsz hfit
    rcases Nat.eq_zero_or_pos M with hz | hz
    · subst hz
      by_cases hsm : 0 + N < 200
      · have hP1 : P = 1 := by rw [HP.out]; rfl
        have HP1 : Hid (0 + 1 = P) := Lib.hid (by omega)
        clear hP1
        go_wp2_with fail
        refine (nines_any 0 _ (by omega)).mono ?_
        rintro e W ⟨rfl, rfl⟩
        rw [nn_zero]
        go_wp2_with fail
        refine (addBad bad_empty (by decide) (by decide) _).mono ?_
        rintro e W ⟨rfl, hb⟩
        replace hB := hB.trans (hb.mono hB.size)
        clear hb
        go_wp2_with fail
        refine (addS i0 i1 HP1 f0 f1 fP _ (he.below hB)).mono ?_
        rintro e W ⟨rfl, hb⟩
        replace hB := hB.trans (hb.mono hB.size)
        clear hb
        go_wp2_with fail
        refine (nines_any N _ (by omega)).mono ?_
        rintro e W ⟨rfl, rfl⟩
        have hsN : (nn N).size ≤ 1000 := by rw [nn_size]; omega
        have hc2 := HQ2.out
        go_wp2_with fail
        clear hc2
        refine (mulS (is_S P) (is_S Q) HR fP fQ (HF.out.2 hsm) _ (he.below hB)).mono ?_
        rintro e W ⟨rfl, hb⟩
        replace hB := hB.trans (hb.mono hB.size)
        clear hb
        go_wp2_with fail
        refine (cmpS (is_S x) i0 (c := 1) K0 fx f0 _).mono ?_
        rintro e W ⟨rfl, hb⟩
        replace hB := hB.trans (hb.mono hB.size)
        clear hb
        have hs1 : (S R).size = N + 1 := by rw [HSZ.out]; omega
        have hd : decide (N < 200) = true := by simp; omega
        have hd2 : decide ((N : Int) < 200) = true := by simp; omega
        have hc3 := HO.out
        have hc4 := HM.out
        go_wp2_with fail
        refine (validS (c := false) (Lib.hid over_invalid) (by unfold Str; rw [nn_size]; omega) _).mono ?_
        rintro e W ⟨rfl, hb⟩
        replace hB := hB.trans (hb.mono hB.size)
        clear hb
        go_wp2_with fail
        refine (validS VM sM _).mono ?_
        rintro e W ⟨rfl, hb⟩
        replace hB := hB.trans (hb.mono hB.size)
        clear hb
        go_wp2
        go_ret
        exact ⟨rfl, hB⟩
      · exact absurd (show 0 + N < 200 by omega) hsm
    · by_cases hsm : M + N < 200
      · have hmz : ((M : Int) == 0) = false := by simp; omega
        have fP1 : Fits (P - 1) := by
          have := pow_pos' M
          have hp := HP.out
          unfold Fits at *
          omega
        have HP1 : Hid (P - 1 + 1 = P) := Lib.hid (by omega)
        have HN1 : Hid (nn M = S (P - 1)) := Lib.hid (by rw [HP.out]; exact (is_nn M (by omega)).eq)
        go_wp2_with fail
        refine (nines_any M _ (by omega)).mono ?_
        rintro e W ⟨rfl, rfl⟩
        rw [HN1.out]
        go_wp2_with fail
        refine (addS (is_S (P - 1)) i1 HP1 fP1 f1 fP _ (he.below hB)).mono ?_
        rintro e W ⟨rfl, hb⟩
        replace hB := hB.trans (hb.mono hB.size)
        clear hb
        go_wp2_with fail
        refine (nines_any N _ (by omega)).mono ?_
        rintro e W ⟨rfl, rfl⟩
        have hsN : (nn N).size ≤ 1000 := by rw [nn_size]; omega
        have hc2 := HQ2.out
        go_wp2_with fail
        clear hc2
        refine (mulS (is_S P) (is_S Q) HR fP fQ (HF.out.2 hsm) _ (he.below hB)).mono ?_
        rintro e W ⟨rfl, hb⟩
        replace hB := hB.trans (hb.mono hB.size)
        clear hb
        go_wp2_with fail
        refine (cmpS (is_S x) i0 (c := 1) K0 fx f0 _).mono ?_
        rintro e W ⟨rfl, hb⟩
        replace hB := hB.trans (hb.mono hB.size)
        clear hb
        have hs1 := HSZ.out
        have hd : decide (M + N < 200) = true := by simpa using hsm
        have hd2 : decide ((M : Int) + (N : Int) < 200) = true := by simp; omega
        have hc3 := HO.out
        have hc4 := HM.out
        go_wp2_with fail
        refine (validS (c := false) (Lib.hid over_invalid) (by unfold Str; rw [nn_size]; omega) _).mono ?_
        rintro e W ⟨rfl, hb⟩
        replace hB := hB.trans (hb.mono hB.size)
        clear hb
        go_wp2_with fail
        refine (validS VM sM _).mono ?_
        rintro e W ⟨rfl, hb⟩
        replace hB := hB.trans (hb.mono hB.size)
        clear hb
        go_wp2
        go_ret
        exact ⟨rfl, hB⟩
      · have hmz : ((M : Int) == 0) = false := by simp; omega
        have fP1 : Fits (P - 1) := by
          have := pow_pos' M
          have hp := HP.out
          unfold Fits at *
          omega
        have HP1 : Hid (P - 1 + 1 = P) := Lib.hid (by omega)
        have HN1 : Hid (nn M = S (P - 1)) := Lib.hid (by rw [HP.out]; exact (is_nn M (by omega)).eq)
        go_wp2_with fail
        refine (nines_any M _ (by omega)).mono ?_
        rintro e W ⟨rfl, rfl⟩
        rw [HN1.out]
        go_wp2_with fail
        refine (addS (is_S (P - 1)) i1 HP1 fP1 f1 fP _ (he.below hB)).mono ?_
        rintro e W ⟨rfl, hb⟩
        replace hB := hB.trans (hb.mono hB.size)
        clear hb
        go_wp2_with fail
        refine (nines_any N _ (by omega)).mono ?_
        rintro e W ⟨rfl, rfl⟩
        have hsN : (nn N).size ≤ 1000 := by rw [nn_size]; omega
        have hc2 := HQ2.out
        go_wp2_with fail
        clear hc2
        refine (mulBig (is_S P) (is_S Q) fP fQ (by rw [HR.out]; exact fun e => hsm (HF.out.1 e)) _ (he.below hB)).mono ?_
        rintro e W ⟨rfl, hb⟩
        replace hB := hB.trans (hb.mono hB.size)
        clear hb
        go_wp2_with fail
        refine (cmpS (is_S x) i0 (c := 1) K0 fx f0 _).mono ?_
        rintro e W ⟨rfl, hb⟩
        replace hB := hB.trans (hb.mono hB.size)
        clear hb
        have hd : decide (M + N < 200) = false := by simpa using hsm
        have hd2 : decide ((M : Int) + (N : Int) < 200) = false := by simp; omega
        have hc3 := HO.out
        have hc4 := HM.out
        go_wp2_with fail
        refine (validS (c := false) (Lib.hid over_invalid) (by unfold Str; rw [nn_size]; omega) _).mono ?_
        rintro e W ⟨rfl, hb⟩
        replace hB := hB.trans (hb.mono hB.size)
        clear hb
        go_wp2_with fail
        refine (validS VM sM _).mono ?_
        rintro e W ⟨rfl, hb⟩
        replace hB := hB.trans (hb.mono hB.size)
        clear hb
        go_wp2
        go_ret
        exact ⟨rfl, hB⟩
  · obtain ⟨u, hu⟩ : ∃ u, u = T + x := ⟨_, rfl⟩
    have fu : Fits u := (HT.out _).2 (by omega)
    obtain ⟨v, hv⟩ : ∃ v, v = -T - x := ⟨_, rfl⟩
    have fv : Fits v := (HT.out _).2 (by omega)
    have e1 := Lib.hid hu.symm
    have e2 := Lib.hid hv.symm
    clear hu hv
    have k0 : ∃ c, cmpZ x 0 = c ∧ c ≤ 0 := ⟨_, rfl, by unfold cmpZ; split <;> (try split) <;> omega⟩
    obtain ⟨c0, k0, hc0⟩ := k0
    have K0 := Lib.hid k0
    clear k0
    go_wp2_with fail
    refine (addS (is_S T) (is_S x) e1 fT fx fu _ (he.below hB)).mono ?_
    rintro e W ⟨rfl, hb⟩
    replace hB := hB.trans (hb.mono hB.size)
    clear hb
    have hc4 := HM.out
    go_wp2_with fail
    refine (subS (is_S (-T)) (is_S x) e2 fM fx fv _ (he.below hB)).mono ?_
    rintro e W ⟨rfl, hb⟩
    replace hB := hB.trans (hb.mono hB.size)
    clear hb
    clear hc4
    go_wp2_with fail
    refine (pick_any m _ hm0 hm1).mono ?_
    rintro e W ⟨⟨M, hM, rfl⟩, rfl⟩
    go_wp2_with fail
    refine (pick_any n _ hn0 hn1).mono ?_
    rintro e W ⟨⟨N, hN, rfl⟩, rfl⟩
    obtain ⟨P, hP⟩ : ∃ P, P = (10 : Int) ^ M := ⟨_, rfl⟩
    have fP : Fits P := by rw [hP]; exact (pow_dig M).fits (by omega)
    obtain ⟨Q, hQ⟩ : ∃ Q, Q = 2 * (10 : Int) ^ N - 1 := ⟨_, rfl⟩
    have fQ : Fits Q := by rw [hQ]; exact two_fits hN
    obtain ⟨R, hR⟩ : ∃ R, R = P * Q := ⟨_, rfl⟩
    have hfit : Fits R ↔ M + N < 200 := by rw [hR, hP, hQ]; exact prod_fits M N
    have hsz : (S R).size = M + N + 1 := by rw [hR, hP, hQ]; exact prod_size M N
    have HR := Lib.hid hR.symm
    have HQ2 : Hid ((⟨#[49]⟩ : ByteArray) ++ nn N = S Q) := Lib.hid (by rw [hQ]; exact (is_one_nn N).eq)
    have HP := Lib.hid hP
    have HSZ := Lib.hid hsz
    have HF := Lib.hid hfit
    clear hP hQ hR hsz hfit
    rcases Nat.eq_zero_or_pos M with hz | hz
    · subst hz
      by_cases hsm : 0 + N < 200
      · have hP1 : P = 1 := by rw [HP.out]; rfl
        have HP1 : Hid (0 + 1 = P) := Lib.hid (by omega)
        clear hP1
        go_wp2_with fail
        refine (nines_any 0 _ (by omega)).mono ?_
        rintro e W ⟨rfl, rfl⟩
        rw [nn_zero]
        go_wp2_with fail
        refine (addBad bad_empty (by decide) (by decide) _).mono ?_
        rintro e W ⟨rfl, hb⟩
        replace hB := hB.trans (hb.mono hB.size)
        clear hb
        go_wp2_with fail
        refine (addS i0 i1 HP1 f0 f1 fP _ (he.below hB)).mono ?_
        rintro e W ⟨rfl, hb⟩
        replace hB := hB.trans (hb.mono hB.size)
        clear hb
        go_wp2_with fail
        refine (nines_any N _ (by omega)).mono ?_
        rintro e W ⟨rfl, rfl⟩
        have hsN : (nn N).size ≤ 1000 := by rw [nn_size]; omega
        have hc2 := HQ2.out
        go_wp2_with fail
        clear hc2
        refine (mulS (is_S P) (is_S Q) HR fP fQ (HF.out.2 hsm) _ (he.below hB)).mono ?_
        rintro e W ⟨rfl, hb⟩
        replace hB := hB.trans (hb.mono hB.size)
        clear hb
        go_wp2_with fail
        refine (cmpS (is_S x) i0 (c := c0) K0 fx f0 _).mono ?_
        rintro e W ⟨rfl, hb⟩
        replace hB := hB.trans (hb.mono hB.size)
        clear hb
        have hs1 : (S R).size = N + 1 := by rw [HSZ.out]; omega
        have hd : decide (N < 200) = true := by simp; omega
        have hd2 : decide ((N : Int) < 200) = true := by simp; omega
        have hc3 := HO.out
        have hc4 := HM.out
        go_wp2_with fail
        refine (validS (c := false) (Lib.hid over_invalid) (by unfold Str; rw [nn_size]; omega) _).mono ?_
        rintro e W ⟨rfl, hb⟩
        replace hB := hB.trans (hb.mono hB.size)
        clear hb
        go_wp2_with fail
        refine (validS VM sM _).mono ?_
        rintro e W ⟨rfl, hb⟩
        replace hB := hB.trans (hb.mono hB.size)
        clear hb
        go_wp2
        go_ret
        exact ⟨rfl, hB⟩
      · exact absurd (show 0 + N < 200 by omega) hsm
    · by_cases hsm : M + N < 200
      · have hmz : ((M : Int) == 0) = false := by simp; omega
        have fP1 : Fits (P - 1) := by
          have := pow_pos' M
          have hp := HP.out
          unfold Fits at *
          omega
        have HP1 : Hid (P - 1 + 1 = P) := Lib.hid (by omega)
        have HN1 : Hid (nn M = S (P - 1)) := Lib.hid (by rw [HP.out]; exact (is_nn M (by omega)).eq)
        go_wp2_with fail
        refine (nines_any M _ (by omega)).mono ?_
        rintro e W ⟨rfl, rfl⟩
        rw [HN1.out]
        go_wp2_with fail
        refine (addS (is_S (P - 1)) i1 HP1 fP1 f1 fP _ (he.below hB)).mono ?_
        rintro e W ⟨rfl, hb⟩
        replace hB := hB.trans (hb.mono hB.size)
        clear hb
        go_wp2_with fail
        refine (nines_any N _ (by omega)).mono ?_
        rintro e W ⟨rfl, rfl⟩
        have hsN : (nn N).size ≤ 1000 := by rw [nn_size]; omega
        have hc2 := HQ2.out
        go_wp2_with fail
        clear hc2
        refine (mulS (is_S P) (is_S Q) HR fP fQ (HF.out.2 hsm) _ (he.below hB)).mono ?_
        rintro e W ⟨rfl, hb⟩
        replace hB := hB.trans (hb.mono hB.size)
        clear hb
        go_wp2_with fail
        refine (cmpS (is_S x) i0 (c := c0) K0 fx f0 _).mono ?_
        rintro e W ⟨rfl, hb⟩
        replace hB := hB.trans (hb.mono hB.size)
        clear hb
        have hs1 := HSZ.out
        have hd : decide (M + N < 200) = true := by simpa using hsm
        have hd2 : decide ((M : Int) + (N : Int) < 200) = true := by simp; omega
        have hc3 := HO.out
        have hc4 := HM.out
        go_wp2_with fail
        refine (validS (c := false) (Lib.hid over_invalid) (by unfold Str; rw [nn_size]; omega) _).mono ?_
        rintro e W ⟨rfl, hb⟩
        replace hB := hB.trans (hb.mono hB.size)
        clear hb
        go_wp2_with fail
        refine (validS VM sM _).mono ?_
        rintro e W ⟨rfl, hb⟩
        replace hB := hB.trans (hb.mono hB.size)
        clear hb
        go_wp2
        go_ret
        exact ⟨rfl, hB⟩
      · have hmz : ((M : Int) == 0) = false := by simp; omega
        have fP1 : Fits (P - 1) := by
          have := pow_pos' M
          have hp := HP.out
          unfold Fits at *
          omega
        have HP1 : Hid (P - 1 + 1 = P) := Lib.hid (by omega)
        have HN1 : Hid (nn M = S (P - 1)) := Lib.hid (by rw [HP.out]; exact (is_nn M (by omega)).eq)
        go_wp2_with fail
        refine (nines_any M _ (by omega)).mono ?_
        rintro e W ⟨rfl, rfl⟩
        rw [HN1.out]
        go_wp2_with fail
        refine (addS (is_S (P - 1)) i1 HP1 fP1 f1 fP _ (he.below hB)).mono ?_
        rintro e W ⟨rfl, hb⟩
        replace hB := hB.trans (hb.mono hB.size)
        clear hb
        go_wp2_with fail
        refine (nines_any N _ (by omega)).mono ?_
        rintro e W ⟨rfl, rfl⟩
        have hsN : (nn N).size ≤ 1000 := by rw [nn_size]; omega
        have hc2 := HQ2.out
        go_wp2_with fail
        clear hc2
        refine (mulBig (is_S P) (is_S Q) fP fQ (by rw [HR.out]; exact fun e => hsm (HF.out.1 e)) _ (he.below hB)).mono ?_
        rintro e W ⟨rfl, hb⟩
        replace hB := hB.trans (hb.mono hB.size)
        clear hb
        go_wp2_with fail
        refine (cmpS (is_S x) i0 (c := c0) K0 fx f0 _).mono ?_
        rintro e W ⟨rfl, hb⟩
        replace hB := hB.trans (hb.mono hB.size)
        clear hb
        have hd : decide (M + N < 200) = false := by simpa using hsm
        have hd2 : decide ((M : Int) + (N : Int) < 200) = false := by simp; omega
        have hc3 := HO.out
        have hc4 := HM.out
        go_wp2_with fail
        refine (validS (c := false) (Lib.hid over_invalid) (by unfold Str; rw [nn_size]; omega) _).mono ?_
        rintro e W ⟨rfl, hb⟩
        replace hB := hB.trans (hb.mono hB.size)
        clear hb
        go_wp2_with fail
        refine (validS VM sM _).mono ?_
        rintro e W ⟨rfl, hb⟩
        replace hB := hB.trans (hb.mono hB.size)
        clear hb
        go_wp2
        go_ret
        exact ⟨rfl, hB⟩
end Go.Proofs.YtnfkibgoockmpaaGreatDoor
