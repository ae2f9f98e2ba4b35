/-
  The reference implementation: ToInt.
-/
import Derived.Test.YtnfkibgoockmpaaGreatDoorRefI
namespace Go.Proofs.YtnfkibgoockmpaaGreatDoor
open Go Go.RowKit Go.Lib Go.Shelf

theorem is_min : Is ⟨#[45, 57, 50, 50, 51, 51, 55, 50, 48, 51, 54, 56, 53, 52, 55, 55, 53, 56, 48, 56]⟩ (-9223372036854775808) := is_lit (by decide) (by decide)
theorem is_max : Is ⟨#[57, 50, 50, 51, 51, 55, 50, 48, 51, 54, 56, 53, 52, 55, 55, 53, 56, 48, 55]⟩ 9223372036854775807 := is_lit (by decide) (by decide)
theorem fits_big {z : Int} (h : z.natAbs ≤ 9223372036854775808) : Fits z := Nat.lt_of_le_of_lt h (by decide +kernel)
theorem evalD_take_le (l : List UInt8) (k : Nat) : evalD (l.take k) ≤ evalD l := by
  have h := evalD_append (l.take k) (l.drop k)
  rw [List.take_append_drop] at h
  have : evalD (l.take k) ≤ evalD (l.take k) * 10 ^ (l.drop k).length := Nat.le_mul_of_pos_right _ (Nat.pow_pos (by decide))
  omega
theorem evalD_take_succ (l : List UInt8) (k : Nat) (c : UInt8) (h : l[k]? = some c) : evalD (l.take (k + 1)) = evalD (l.take k) * 10 + (c.toNat - 48) := by
  rw [List.take_add_one, h]
  simp only [Option.toList_some]
  exact evalD_snoc _ _
set_option maxRecDepth 100000 in
set_option maxHeartbeats 2000000 in
theorem rtoInt_nn (s : ByteArray) (z : Int) (w : World) (hz : Is s z) (hi : IsInt z) (h : 0 ≤ z) : Calls Tryz.prog 32 #[.string s] w (IntOk z 0 w) := by
  have hf : Fits z := (dig_int hi).fits (by omega)
  have hsz : s.size ≤ 201 := by have := S_size hf; rw [hz.eq]; exact this
  obtain ⟨b0, b1⟩ := hi
  have k1 : ∃ c, cmpZ z (-9223372036854775808) = c ∧ 0 ≤ c := ⟨_, rfl, by unfold cmpZ; split <;> (try split) <;> omega⟩
  obtain ⟨c1, k1, hc1⟩ := k1
  have K1 := Lib.hid k1
  have k2 : ∃ c, cmpZ z 9223372036854775807 = c ∧ c ≤ 0 := ⟨_, rfl, by unfold cmpZ; split <;> (try split) <;> omega⟩
  obtain ⟨c2, k2, hc2⟩ := k2
  have K2 := Lib.hid k2
  clear k1 k2
  have HUL : Hid (s.data.toList = decDigits z.natAbs) := Lib.hid (by
    unfold Is at hz
    rw [hz]
    obtain ⟨v, rfl⟩ : ∃ v : Nat, z = v := ⟨z.natAbs, by omega⟩
    rw [itoa_nn, Int.natAbs_natCast])
  have hu1 : 0 < s.size := by rw [← size_len, HUL.out]; exact dec_len_pos _
  have hd : Hid (∀ c ∈ s.data.toList, isDig c = true) := Lib.hid (by rw [HUL.out]; exact decDigits_dig _)
  have hev : Hid (evalD s.data.toList = z.natAbs) := Lib.hid (by rw [HUL.out, evalD_decDigits])
  have hc3 : ((s[0].toNat : Int) == 45) = false := by
    have h1 := hd.out s[0] (List.mem_of_getElem? (idx_list s 0 hu1))
    simp [isDig] at h1
    rw [beq_eq_false_iff_ne]; omega
  go_enter Tryz.func32, Tryz.ntmps32
  go_wp2_with fail
  refine (rvalid_is hz hf _).mono ?_
  rintro e W ⟨rfl, hw⟩
  rw [hw]
  clear hw W
  have hB : Below w.heap.size w w := Below.refl _ _
  go_wp2_with fail
  refine (rcmpS hz is_min K1 hf (fits_big (by decide)) _).mono ?_
  rintro e W ⟨rfl, hb⟩
  replace hB := hB.trans (hb.mono hB.size)
  clear hb
  go_wp2_with fail
  refine (rcmpS hz is_max K2 hf (fits_big (by decide)) _).mono ?_
  rintro e W ⟨rfl, hb⟩
  replace hB := hB.trans (hb.mono hB.size)
  clear hb
  go_wp2
  go_loopw [4, 5] (fun nv iv wr => ∃ (k : Nat) (V : Int), nv = .int .i64 V ∧ iv = .int .i64 (k : Int) ∧ k ≤ s.size ∧ Hid (V = ((evalD (s.data.toList.take k) : Nat) : Int)) ∧ wr = W)
    (fun _ iv _ => s.size - (RowKit.intOf iv).toNat)
  case atStart => exact ⟨0, 0, rfl, rfl, by omega, by show _ = _; simp [evalD], rfl⟩
  case round =>
    obtain ⟨k, V, rfl, rfl, hk, hV, rfl⟩ := hrel
    by_cases hks : k < s.size
    · have hcl := Lib.hid (idx_list s k hks)
      have hdk : isDig s[k] = true := hd.out _ (List.mem_of_getElem? hcl.out)
      have hd1 : 48 ≤ (s[k].toNat : Int) := by simp [isDig] at hdk; omega
      have hd2 : (s[k].toNat : Int) ≤ 57 := by simp [isDig] at hdk; omega
      have hne : ((s[k].toNat : Int) == 45) = false := by rw [beq_eq_false_iff_ne]; omega
      have hst := evalD_take_succ s.data.toList k s[k] hcl.out
      have hle := evalD_take_le s.data.toList (k + 1)
      rw [hev.out] at hle
      have hV0 : 0 ≤ V := by have := hV.out; omega
      have hV1 : 10 * V + ((s[k].toNat : Int) - 48) ≤ 9223372036854775807 := by have := hV.out; omega
      have hnew : Hid (10 * V + ((s[k].toNat : Int) - 48) = ((evalD (s.data.toList.take (k + 1)) : Nat) : Int)) := Lib.hid (by have := hV.out; omega)
      clear hst hle hdk
      go_wp2
      go_roundw
      case rel => exact ⟨k + 1, _, rfl, by go_num, by omega, hnew, by first | rfl | trivial⟩
      case measure => simp [RowKit.intOf]; omega
    · obtain rfl : k = s.size := by omega
      have hfin : V = z := by
        have h1 := hV.out
        rw [List.take_of_length_le (by rw [size_len]; exact Nat.le_refl _), hev.out] at h1
        omega
      subst hfin
      clear hks hc3
      go_wp2
      go_ret2
      exact ⟨rfl, hB⟩
set_option maxRecDepth 100000 in
set_option maxHeartbeats 2000000 in
theorem rtoInt_neg (s : ByteArray) (z : Int) (w : World) (hz : Is s z) (hi : IsInt z) (h : z < 0) : Calls Tryz.prog 32 #[.string s] w (IntOk z 0 w) := by
  have hf : Fits z := (dig_int hi).fits (by omega)
  have hsz : s.size ≤ 201 := by have := S_size hf; rw [hz.eq]; exact this
  obtain ⟨b0, b1⟩ := hi
  have k1 : ∃ c, cmpZ z (-9223372036854775808) = c ∧ 0 ≤ c := ⟨_, rfl, by unfold cmpZ; split <;> (try split) <;> omega⟩
  obtain ⟨c1, k1, hc1⟩ := k1
  have K1 := Lib.hid k1
  have k2 : ∃ c, cmpZ z 9223372036854775807 = c ∧ c ≤ 0 := ⟨_, rfl, by unfold cmpZ; split <;> (try split) <;> omega⟩
  obtain ⟨c2, k2, hc2⟩ := k2
  have K2 := Lib.hid k2
  clear k1 k2
  have h45 : s.data.toList.head? = some 45 := by unfold Is at hz; rw [hz]; exact (itoa_head z).2 h
  have hu1 : 0 < s.size := by
    rw [← size_len]
    cases hl : s.data.toList with
    | nil => rw [hl] at h45; cases h45
    | cons c r => simp
  have hc3 : (s[0].toNat : Int) = 45 := by
    have := idx_list s 0 hu1
    rw [← List.head?_eq_getElem?, h45] at this
    injection this with this
    rw [← this]; rfl
  have HUL : Hid (s.data.toList = 45 :: decDigits z.natAbs) := Lib.hid (by
    unfold Is at hz
    rw [hz]
    obtain ⟨v, hv, rfl⟩ : ∃ v : Nat, 0 < v ∧ z = -(v : Int) := ⟨z.natAbs, by omega, by omega⟩
    rw [itoa_ng v hv, Int.natAbs_neg, Int.natAbs_natCast])
  have hd : Hid (∀ c ∈ s.data.toList.drop 1, isDig c = true) := Lib.hid (by rw [HUL.out]; exact decDigits_dig _)
  have hev : Hid (evalD (s.data.toList.drop 1) = z.natAbs) := Lib.hid (by rw [HUL.out]; exact evalD_decDigits _)
  clear h45
  go_enter Tryz.func32, Tryz.ntmps32
  go_wp2_with fail
  refine (rvalid_is hz hf _).mono ?_
  rintro e W ⟨rfl, hw⟩
  rw [hw]
  clear hw W
  have hB : Below w.heap.size w w := Below.refl _ _
  go_wp2_with fail
  refine (rcmpS hz is_min K1 hf (fits_big (by decide)) _).mono ?_
  rintro e W ⟨rfl, hb⟩
  replace hB := hB.trans (hb.mono hB.size)
  clear hb
  go_wp2_with fail
  refine (rcmpS hz is_max K2 hf (fits_big (by decide)) _).mono ?_
  rintro e W ⟨rfl, hb⟩
  replace hB := hB.trans (hb.mono hB.size)
  clear hb
  go_wp2
  go_loopw [4, 5] (fun nv iv wr => ∃ (k : Nat) (V : Int), nv = .int .i64 V ∧ iv = .int .i64 (k : Int) ∧ k ≤ s.size ∧ Hid (V = -((evalD ((s.data.toList.drop 1).take (k - 1)) : Nat) : Int)) ∧ wr = W)
    (fun _ iv _ => s.size - (RowKit.intOf iv).toNat)
  case atStart => exact ⟨0, 0, rfl, rfl, by omega, by show _ = _; simp [evalD], rfl⟩
  case round =>
    obtain ⟨k, V, rfl, rfl, hk, hV, rfl⟩ := hrel
    by_cases hks : k < s.size
    · rcases Nat.eq_zero_or_pos k with hk0 | hk0
      · subst hk0
        obtain rfl : V = 0 := by have := hV.out; simpa [evalD] using this
        go_wp2
        go_roundw
        case rel => exact ⟨1, 0, rfl, rfl, by omega, by show _ = _; simp [evalD], by first | rfl | trivial⟩
        case measure => simp [RowKit.intOf]; omega
      · have hcl := Lib.hid (idx_list s k hks)
        have hcl2 : Hid ((s.data.toList.drop 1)[k - 1]? = some s[k]) := Lib.hid (by rw [List.getElem?_drop, show 1 + (k - 1) = k by omega]; exact hcl.out)
        have hdk : isDig s[k] = true := hd.out _ (List.mem_of_getElem? hcl2.out)
        have hd1 : 48 ≤ (s[k].toNat : Int) := by simp [isDig] at hdk; omega
        have hd2 : (s[k].toNat : Int) ≤ 57 := by simp [isDig] at hdk; omega
        have hne : ((s[k].toNat : Int) == 45) = false := by rw [beq_eq_false_iff_ne]; omega
        have hst := evalD_take_succ (s.data.toList.drop 1) (k - 1) s[k] hcl2.out
        have hle := evalD_take_le (s.data.toList.drop 1) (k - 1 + 1)
        rw [hev.out] at hle
        have hV0 : V ≤ 0 := by have := hV.out; omega
        have hV1 : -9223372036854775808 ≤ 10 * V - ((s[k].toNat : Int) - 48) := by have := hV.out; omega
        have hnew : Hid (10 * V - ((s[k].toNat : Int) - 48) = -((evalD ((s.data.toList.drop 1).take (k + 1 - 1)) : Nat) : Int)) := Lib.hid (by have := hV.out; rw [show k + 1 - 1 = k - 1 + 1 by omega]; omega)
        have hk9 : ((k : Int) == 0) = false := by rw [beq_eq_false_iff_ne]; omega
        clear hst hle hdk
        go_wp2
        go_roundw
        case rel => exact ⟨k + 1, _, rfl, by go_num, by omega, by have := hnew.out; show _ = _; omega, by first | rfl | trivial⟩
        case measure => simp [RowKit.intOf]; omega
    · obtain rfl : k = s.size := by omega
      have hfin : V = z := by
        have h1 := hV.out
        rw [List.take_of_length_le (by rw [List.length_drop, size_len]; exact Nat.le_refl _), hev.out] at h1
        omega
      subst hfin
      clear hks hc3
      go_wp2
      go_ret2
      exact ⟨rfl, hB⟩
theorem rtoInt_ok (s : ByteArray) (z : Int) (w : World) (hz : Is s z) (hi : IsInt z) : Calls Tryz.prog 32 #[.string s] w (IntOk z 0 w) := by
  by_cases h : z < 0
  · exact rtoInt_neg s z w hz hi h
  · exact rtoInt_nn s z w hz hi (by omega)
set_option maxRecDepth 100000 in
set_option maxHeartbeats 2000000 in
theorem rtoInt_invalid (s : ByteArray) (w : World) (hv : Hid (validB s.data.toList = false)) (hs : Str s) : Calls Tryz.prog 32 #[.string s] w (IntOk 0 30 w) := by
  go_enter Tryz.func32, Tryz.ntmps32
  go_wp2_with fail
  refine (rvalid_not hv.out hs _).mono ?_
  rintro e W ⟨rfl, rfl⟩
  go_wp2
  go_ret2
  exact ⟨rfl, Below.refl _ _⟩
set_option maxRecDepth 100000 in
set_option maxHeartbeats 2000000 in
theorem rtoInt_low (s : ByteArray) (z : Int) (w : World) (hz : Is s z) (hf : Fits z) (h : z < -9223372036854775808) : Calls Tryz.prog 32 #[.string s] w (IntOk 0 30 w) := by
  have K1 : Hid (cmpZ z (-9223372036854775808) = -1) := Lib.hid (cmpZ_lt h)
  clear h
  go_enter Tryz.func32, Tryz.ntmps32
  go_wp2_with fail
  refine (rvalid_is hz hf _).mono ?_
  rintro e W ⟨rfl, hw⟩
  rw [hw]
  clear hw W
  have hB : Below w.heap.size w w := Below.refl _ _
  go_wp2_with fail
  refine (rcmpS hz is_min K1 hf (fits_big (by decide)) _).mono ?_
  rintro e W ⟨rfl, hb⟩
  replace hB := hB.trans (hb.mono hB.size)
  clear hb
  go_wp2
  go_ret2
  exact ⟨rfl, hB⟩
set_option maxRecDepth 100000 in
set_option maxHeartbeats 2000000 in
theorem rtoInt_high (s : ByteArray) (z : Int) (w : World) (hz : Is s z) (hf : Fits z) (h : 9223372036854775807 < z) : Calls Tryz.prog 32 #[.string s] w (IntOk 0 30 w) := by
  have K1 : Hid (cmpZ z (-9223372036854775808) = 1) := Lib.hid (cmpZ_gt (by omega))
  have K2 : Hid (cmpZ z 9223372036854775807 = 1) := Lib.hid (cmpZ_gt h)
  clear h
  go_enter Tryz.func32, Tryz.ntmps32
  go_wp2_with fail
  refine (rvalid_is hz hf _).mono ?_
  rintro e W ⟨rfl, hw⟩
  rw [hw]
  clear hw W
  have hB : Below w.heap.size w w := Below.refl _ _
  go_wp2_with fail
  refine (rcmpS hz is_min K1 hf (fits_big (by decide)) _).mono ?_
  rintro e W ⟨rfl, hb⟩
  replace hB := hB.trans (hb.mono hB.size)
  clear hb
  go_wp2_with fail
  refine (rcmpS hz is_max K2 hf (fits_big (by decide)) _).mono ?_
  rintro e W ⟨rfl, hb⟩
  replace hB := hB.trans (hb.mono hB.size)
  clear hb
  go_wp2
  go_ret2
  exact ⟨rfl, hB⟩
theorem rtoInt_bad (s : ByteArray) (w : World) (h : ¬ ∃ z, IsInt z ∧ Is s z) (hs : Str s) : Calls Tryz.prog 32 #[.string s] w (IntOk 0 30 w) := by
  by_cases hv : validB s.data.toList = true
  · obtain ⟨z, hf, e⟩ := validB_elim _ hv
    rcases Int.lt_or_le z (-9223372036854775808) with h1 | h1
    · exact rtoInt_low s z w e hf h1
    · refine rtoInt_high s z w e hf ?_
      rcases Int.lt_or_le 9223372036854775807 z with h2 | h2
      · exact h2
      · exact absurd ⟨z, ⟨h1, h2⟩, e⟩ h
  · exact rtoInt_invalid s w (Lib.hid (by simpa using hv)) hs
end Go.Proofs.YtnfkibgoockmpaaGreatDoor
