/-
  IntegerText: the walk.
-/
import Derived.Test.YtnfkibgoockmpaaGreatDoorLaw2
namespace Go.Proofs.YtnfkibgoockmpaaGreatDoor
open Go Go.RowKit Go.Lib Go.Shelf

theorem toInt_bad (s : ByteArray) (w : World) (he : Env w) (h : ¬ ∃ z, IsInt z ∧ Is s z) (hs : s.size ≤ 140737488355328) :
    Calls Tryz.prog 31 #[.string s] w (IntOk 0 30 w) := by
  by_cases hv : validB s.data.toList = true
  · obtain ⟨z, hf, e⟩ := validB_elim _ hv
    exact toInt_great s z w he e hf (fun hi => h ⟨z, hi, e⟩) hs
  · exact toInt_invalid s w he (by simpa using hv) hs
theorem cut_size (s : ByteArray) (k : Nat) (n : Nat) (h : k ≤ n) : (s.extract 0 k).size ≤ n := by
  rw [ByteArray.size_extract]; omega
set_option maxRecDepth 100000 in
set_option maxHeartbeats 4000000 in
theorem integerText_any (n : Int) (s : ByteArray) (w : World) (he : Env w) (hs : s.size ≤ 9223372036854775807) (h0 : -9223372036854775808 ≤ n) (h1 : n ≤ 9223372036854775807) :
    Calls Tryz.prog 11 #[.int .i64 n, .string s] w (BoolOk true w) := by
  have hB : Below w.heap.size w w := Below.refl _ _
  have jn : IsInt n := ⟨h0, h1⟩
  have fn := (dig_int jn).fits (by omega)
  have Jn := Lib.hid jn
  have Vn := Lib.hid ((is_S n).valid fn)
  have sn := (is_S n).str fn
  have hus : (s.extract 0 (min (s.size : Int) 30).toNat).size ≤ 30 := cut_size _ _ _ (by omega)
  clear jn
  go_enter Tryz.func11, Tryz.ntmps11
  go_wp2_with fail
  refine (sane_any _ (he.below hB)).mono ?_
  rintro e W ⟨rfl, hb⟩
  replace hB := hB.trans (hb.mono hB.size)
  clear hb
  go_wp2_with fail
  generalize s.extract 0 (min (s.size : Int) 30).toNat = u at *
  by_cases hz : ∃ z, IsInt z ∧ Is u z
  · obtain ⟨z, jz, hz⟩ := hz
    have hz' := hz.eq
    subst hz'
    have Jz := Lib.hid jz
    have fz := (dig_int jz).fits (by omega)
    have Vz := Lib.hid ((is_S z).valid fz)
    have sz := (is_S z).str fz
    clear jz hz
    refine (fromIntS Jn _ (he.below hB)).mono ?_
    rintro e W ⟨rfl, hb⟩
    replace hB := hB.trans (hb.mono hB.size)
    clear hb
    go_wp2_with fail
    refine (toInt_ok (S n) n _ (is_S n) Jn.out (by have := S_size fn; omega)).mono ?_
    rintro e W ⟨rfl, hb⟩
    replace hB := hB.trans (hb.mono hB.size)
    clear hb
    go_wp2_with fail
    refine (toInt_ok (S z) z _ (is_S z) Jz.out (by have := S_size fz; omega)).mono ?_
    rintro e W ⟨rfl, hb⟩
    replace hB := hB.trans (hb.mono hB.size)
    clear hb
    go_wp2_with fail
    refine (validS Vn sn _).mono ?_
    rintro e W ⟨rfl, hb⟩
    replace hB := hB.trans (hb.mono hB.size)
    clear hb
    go_wp2_with fail
    refine (validS Vz sz _).mono ?_
    rintro e W ⟨rfl, hb⟩
    replace hB := hB.trans (hb.mono hB.size)
    clear hb
    go_wp2_with fail
    refine (fromIntS Jz _ (he.below hB)).mono ?_
    rintro e W ⟨rfl, hb⟩
    replace hB := hB.trans (hb.mono hB.size)
    clear hb
    go_wp2
    go_ret
    exact ⟨rfl, hB⟩
  · have HN := Lib.hid hz
    clear hz
    refine (fromIntS Jn _ (he.below hB)).mono ?_
    rintro e W ⟨rfl, hb⟩
    replace hB := hB.trans (hb.mono hB.size)
    clear hb
    go_wp2_with fail
    refine (toInt_ok (S n) n _ (is_S n) Jn.out (by have := S_size fn; omega)).mono ?_
    rintro e W ⟨rfl, hb⟩
    replace hB := hB.trans (hb.mono hB.size)
    clear hb
    go_wp2_with fail
    refine (toInt_bad u _ (he.below hB) HN.out (by omega)).mono ?_
    rintro e W ⟨rfl, hb⟩
    replace hB := hB.trans (hb.mono hB.size)
    clear hb
    go_wp2_with fail
    refine (validS Vn sn _).mono ?_
    rintro e W ⟨rfl, hb⟩
    replace hB := hB.trans (hb.mono hB.size)
    clear hb
    go_wp2
    go_ret
    exact ⟨rfl, hB⟩
end Go.Proofs.YtnfkibgoockmpaaGreatDoor
