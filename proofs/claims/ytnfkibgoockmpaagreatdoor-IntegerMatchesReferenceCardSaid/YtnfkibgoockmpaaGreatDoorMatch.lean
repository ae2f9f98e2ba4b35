/-
  IntegerMatchesReference: the walk.
-/
import Derived.Test.YtnfkibgoockmpaaGreatDoorBothR
namespace Go.Proofs.YtnfkibgoockmpaaGreatDoor
open Go Go.RowKit Go.Lib Go.Shelf

theorem below_to_drew {B : Nat} {w W : World} (h : Below B w W) : Below B w W.drew := ⟨h.os, h.tape, h.output, h.size, h.block⟩
set_option maxRecDepth 100000 in
set_option maxHeartbeats 8000000 in
theorem integerMatchesReference_any (a b : ByteArray) (n : Int) (w : World) (he : Env w) (hsa : a.size ≤ 9223372036854775807) (hsb : b.size ≤ 9223372036854775807) (hn0 : -9223372036854775808 ≤ n) (hn1 : n ≤ 9223372036854775807) :
    Calls Tryz.prog 9 #[.string a, .string b, .int .i64 n] w (BoolOk true w) := by
  have hB : Below w.heap.size w w := Below.refl _ _
  have Jn : Hid (IsInt n) := Lib.hid ⟨hn0, hn1⟩
  have hua : (a.extract 0 (min (a.size : Int) 210).toNat).size ≤ 210 := cut_size _ _ _ (by omega)
  have hub : (b.extract 0 (min (b.size : Int) 210).toNat).size ≤ 210 := cut_size _ _ _ (by omega)
  go_enter Tryz.func9, Tryz.ntmps9
  go_wp2_with fail
  refine (sane_any _ (he.below hB)).mono ?_
  rintro e W ⟨rfl, hb⟩
  replace hB := hB.trans (hb.mono hB.size)
  clear hb
  go_wp2_with fail
  generalize a.extract 0 (min (a.size : Int) 210).toNat = a' at *
  generalize b.extract 0 (min (b.size : Int) 210).toNat = b' at *
  refine (made_any a' 70 _ (by omega) (by omega)).mono ?_
  rintro e W ⟨x1, rfl, dx1, hb⟩
  replace hB := hB.trans (hb.mono hB.size)
  clear hb
  go_wp2_with fail
  refine (made_any b' 30 _ (by omega) (by omega)).mono ?_
  rintro e W ⟨y1, rfl, dy1, hb⟩
  replace hB := hB.trans (hb.mono hB.size)
  clear hb
  go_wp2_with fail
  refine (made_any a' 12 _ (by omega) (by omega)).mono ?_
  rintro e W ⟨x2, rfl, dx2, hb⟩
  replace hB := hB.trans (hb.mono hB.size)
  clear hb
  go_wp2_with fail
  refine (rfromIntS Jn _).mono ?_
  rintro e W ⟨rfl, hb⟩
  replace hB := hB.trans (hb.mono hB.size)
  clear hb
  go_wp2_with fail
  have harr := heap_alloc_new W (.cells #[.string a', .string b', .string (S x1), .string (S y1), .string (S x2), .string (S n)] 37)
  have hB1 := hB.alloc hB.size (.cells #[.string a', .string b', .string (S x1), .string (S y1), .string (S x2), .string (S n)] 37)
  have hsz1 : W.heap.size < (W.alloc (.cells #[.string a', .string b', .string (S x1), .string (S y1), .string (S x2), .string (S n)] 37)).heap.size := by simp
  generalize (W.alloc (.cells #[.string a', .string b', .string (S x1), .string (S y1), .string (S x2), .string (S n)] 37)) = W1 at *
  generalize W.heap.size = bs at *
  go_loopw [50] (fun iv wr => ∃ (k : Nat), k ≤ 3 ∧ iv = .int .i64 (k : Int) ∧ Below W1.heap.size W1 wr) (fun iv _ => 3 - (RowKit.intOf iv).toNat)
  case atStart => exact ⟨0, by omega, rfl, Below.refl _ _⟩
  case round =>
    obtain ⟨k, hk, rfl, hBr⟩ := hrel
    by_cases hk3 : k < 3
    · have hrow : wr.heap[bs]? = some (.cells #[.string a', .string b', .string (S x1), .string (S y1), .string (S x2), .string (S n)] 37 (0, 0)) := (hBr.block _ hsz1).trans harr
      obtain ⟨X, Y, hX, hY, hsX, hsY⟩ : ∃ X Y : ByteArray, wr.cell? ⟨bs, k * 2, none⟩ = some (.string X) ∧ wr.cell? ⟨bs, k * 2 + 1, none⟩ = some (.string Y) ∧ X.size ≤ 210 ∧ Y.size ≤ 210 := by
        have f1 := S_size (dx1.fits (by omega))
        have f2 := S_size (dy1.fits (by omega))
        have f3 := S_size (dx2.fits (by omega))
        have f4 := S_size ((dig_int Jn.out).fits (by omega))
        have hk' : k = 0 ∨ k = 1 ∨ k = 2 := by omega
        rcases hk' with rfl | rfl | rfl
        · exact ⟨a', b', cell_of_row _ _ 0 _ _ _ hrow, cell_of_row _ _ 1 _ _ _ hrow, hua, hub⟩
        · exact ⟨S x1, S y1, cell_of_row _ _ 2 _ _ _ hrow, cell_of_row _ _ 3 _ _ _ hrow, by omega, by omega⟩
        · exact ⟨S x2, S n, cell_of_row _ _ 4 _ _ _ hrow, cell_of_row _ _ 5 _ _ _ hrow, by omega, by omega⟩
      clear hrow
      obtain ⟨s_add, e_add, F_add, G_add⟩ := same_add X Y (by unfold Str; omega) (by unfold Str; omega)
      have F_add := Lib.hid F_add
      have G_add := Lib.hid G_add
      obtain ⟨s_sub, e_sub, F_sub, G_sub⟩ := same_sub X Y (by unfold Str; omega) (by unfold Str; omega)
      have F_sub := Lib.hid F_sub
      have G_sub := Lib.hid G_sub
      obtain ⟨s_mul, e_mul, F_mul, G_mul⟩ := same_mul X Y (by unfold Str; omega) (by unfold Str; omega)
      have F_mul := Lib.hid F_mul
      have G_mul := Lib.hid G_mul
      obtain ⟨s_div, t_div, e_div, F_div, G_div⟩ := same_div X Y (by unfold Str; omega) (by unfold Str; omega)
      have F_div := Lib.hid F_div
      have G_div := Lib.hid G_div
      obtain ⟨s_gcd, e_gcd, F_gcd, G_gcd⟩ := same_gcd X Y (by unfold Str; omega) (by unfold Str; omega)
      have F_gcd := Lib.hid F_gcd
      have G_gcd := Lib.hid G_gcd
      obtain ⟨s_root, e_root, F_root, G_root⟩ := same_root X (by unfold Str; omega)
      have F_root := Lib.hid F_root
      have G_root := Lib.hid G_root
      obtain ⟨s_toInt, e_toInt, F_toInt, G_toInt⟩ := same_toInt X (by omega)
      have F_toInt := Lib.hid F_toInt
      have G_toInt := Lib.hid G_toInt
      obtain ⟨s_valid, F_valid, G_valid⟩ := same_valid X (by unfold Str; omega)
      have F_valid := Lib.hid F_valid
      have G_valid := Lib.hid G_valid
      obtain ⟨s_cmp, F_cmp, G_cmp⟩ := same_cmp X Y (by unfold Str; omega) (by unfold Str; omega)
      have F_cmp := Lib.hid F_cmp
      have G_cmp := Lib.hid G_cmp
      go_wp2_with fail
      have c00 := heap_alloc_new wr (.cells #[.string X, .string Y] 37)
      have hbx : wr.heap.size < (wr.alloc (.cells #[.string X, .string Y] 37)).heap.size := by simp
      have hT := hB1.trans ((hBr.alloc hBr.size (.cells #[.string X, .string Y] 37)).mono hB1.size)
      have hR0 := hBr.alloc hBr.size (.cells #[.string X, .string Y] 37)
      generalize (wr.alloc (.cells #[.string X, .string Y] 37)) = V0 at *
      generalize wr.heap.size = bx at *
      obtain ⟨c0, c1, _, _⟩ := two_facts c00
      have hq : Below V0.heap.size V0 V0 := Below.refl _ _
      clear hX hY c00
      refine (F_add.out _ (he.below (hT.trans (hq.mono hT.size)))).mono ?_
      rintro e W ⟨rfl, hb⟩
      replace c0 := (hb.cell (p := ⟨bx, 0, none⟩) (Nat.lt_of_lt_of_le hbx hq.size)).trans c0
      replace c1 := (hb.cell (p := ⟨bx, 1, none⟩) (Nat.lt_of_lt_of_le hbx hq.size)).trans c1
      replace hq := hq.trans (hb.mono hq.size)
      clear hb
      go_wp2_with fail
      refine (G_add.out _ (he.below (hT.trans (hq.mono hT.size)))).mono ?_
      rintro e W ⟨rfl, hb⟩
      replace c0 := (hb.cell (p := ⟨bx, 0, none⟩) (Nat.lt_of_lt_of_le hbx hq.size)).trans c0
      replace c1 := (hb.cell (p := ⟨bx, 1, none⟩) (Nat.lt_of_lt_of_le hbx hq.size)).trans c1
      replace hq := hq.trans (hb.mono hq.size)
      clear hb
      go_wp2_with fail
      refine (F_sub.out _ (he.below (hT.trans (hq.mono hT.size)))).mono ?_
      rintro e W ⟨rfl, hb⟩
      replace c0 := (hb.cell (p := ⟨bx, 0, none⟩) (Nat.lt_of_lt_of_le hbx hq.size)).trans c0
      replace c1 := (hb.cell (p := ⟨bx, 1, none⟩) (Nat.lt_of_lt_of_le hbx hq.size)).trans c1
      replace hq := hq.trans (hb.mono hq.size)
      clear hb
      go_wp2_with fail
      refine (G_sub.out _ (he.below (hT.trans (hq.mono hT.size)))).mono ?_
      rintro e W ⟨rfl, hb⟩
      replace c0 := (hb.cell (p := ⟨bx, 0, none⟩) (Nat.lt_of_lt_of_le hbx hq.size)).trans c0
      replace c1 := (hb.cell (p := ⟨bx, 1, none⟩) (Nat.lt_of_lt_of_le hbx hq.size)).trans c1
      replace hq := hq.trans (hb.mono hq.size)
      clear hb
      go_wp2_with fail
      refine (F_mul.out _ (he.below (hT.trans (hq.mono hT.size)))).mono ?_
      rintro e W ⟨rfl, hb⟩
      replace c0 := (hb.cell (p := ⟨bx, 0, none⟩) (Nat.lt_of_lt_of_le hbx hq.size)).trans c0
      replace c1 := (hb.cell (p := ⟨bx, 1, none⟩) (Nat.lt_of_lt_of_le hbx hq.size)).trans c1
      replace hq := hq.trans (hb.mono hq.size)
      clear hb
      go_wp2_with fail
      refine (G_mul.out _ (he.below (hT.trans (hq.mono hT.size)))).mono ?_
      rintro e W ⟨rfl, hb⟩
      replace c0 := (hb.cell (p := ⟨bx, 0, none⟩) (Nat.lt_of_lt_of_le hbx hq.size)).trans c0
      replace c1 := (hb.cell (p := ⟨bx, 1, none⟩) (Nat.lt_of_lt_of_le hbx hq.size)).trans c1
      replace hq := hq.trans (hb.mono hq.size)
      clear hb
      go_wp2_with fail
      refine (F_div.out _ (he.below (hT.trans (hq.mono hT.size)))).mono ?_
      rintro e W ⟨rfl, hb⟩
      replace c0 := (hb.cell (p := ⟨bx, 0, none⟩) (Nat.lt_of_lt_of_le hbx hq.size)).trans c0
      replace c1 := (hb.cell (p := ⟨bx, 1, none⟩) (Nat.lt_of_lt_of_le hbx hq.size)).trans c1
      replace hq := hq.trans (hb.mono hq.size)
      clear hb
      go_wp2_with fail
      refine (G_div.out _ (he.below (hT.trans (hq.mono hT.size)))).mono ?_
      rintro e W ⟨rfl, hb⟩
      replace c0 := (hb.cell (p := ⟨bx, 0, none⟩) (Nat.lt_of_lt_of_le hbx hq.size)).trans c0
      replace c1 := (hb.cell (p := ⟨bx, 1, none⟩) (Nat.lt_of_lt_of_le hbx hq.size)).trans c1
      replace hq := hq.trans (hb.mono hq.size)
      clear hb
      go_wp2_with fail
      refine (F_gcd.out _ (he.below (hT.trans (hq.mono hT.size)))).mono ?_
      rintro e W ⟨rfl, hb⟩
      replace c0 := (hb.cell (p := ⟨bx, 0, none⟩) (Nat.lt_of_lt_of_le hbx hq.size)).trans c0
      replace c1 := (hb.cell (p := ⟨bx, 1, none⟩) (Nat.lt_of_lt_of_le hbx hq.size)).trans c1
      replace hq := hq.trans (hb.mono hq.size)
      clear hb
      go_wp2_with fail
      refine (G_gcd.out _ (he.below (hT.trans (hq.mono hT.size)))).mono ?_
      rintro e W ⟨rfl, hb⟩
      replace c0 := (hb.cell (p := ⟨bx, 0, none⟩) (Nat.lt_of_lt_of_le hbx hq.size)).trans c0
      replace c1 := (hb.cell (p := ⟨bx, 1, none⟩) (Nat.lt_of_lt_of_le hbx hq.size)).trans c1
      replace hq := hq.trans (hb.mono hq.size)
      clear hb
      go_wp2_with fail
      refine (F_root.out _ (he.below (hT.trans (hq.mono hT.size)))).mono ?_
      rintro e W ⟨rfl, hb⟩
      replace c0 := (hb.cell (p := ⟨bx, 0, none⟩) (Nat.lt_of_lt_of_le hbx hq.size)).trans c0
      replace c1 := (hb.cell (p := ⟨bx, 1, none⟩) (Nat.lt_of_lt_of_le hbx hq.size)).trans c1
      replace hq := hq.trans (hb.mono hq.size)
      clear hb
      go_wp2_with fail
      refine (G_root.out _ (he.below (hT.trans (hq.mono hT.size)))).mono ?_
      rintro e W ⟨rfl, hb⟩
      replace c0 := (hb.cell (p := ⟨bx, 0, none⟩) (Nat.lt_of_lt_of_le hbx hq.size)).trans c0
      replace c1 := (hb.cell (p := ⟨bx, 1, none⟩) (Nat.lt_of_lt_of_le hbx hq.size)).trans c1
      replace hq := hq.trans (hb.mono hq.size)
      clear hb
      go_wp2_with fail
      refine (F_toInt.out _ (he.below (hT.trans (hq.mono hT.size)))).mono ?_
      rintro e W ⟨rfl, hb⟩
      replace c0 := (hb.cell (p := ⟨bx, 0, none⟩) (Nat.lt_of_lt_of_le hbx hq.size)).trans c0
      replace c1 := (hb.cell (p := ⟨bx, 1, none⟩) (Nat.lt_of_lt_of_le hbx hq.size)).trans c1
      replace hq := hq.trans (hb.mono hq.size)
      clear hb
      go_wp2_with fail
      refine (G_toInt.out _ (he.below (hT.trans (hq.mono hT.size)))).mono ?_
      rintro e W ⟨rfl, hb⟩
      replace c0 := (hb.cell (p := ⟨bx, 0, none⟩) (Nat.lt_of_lt_of_le hbx hq.size)).trans c0
      replace c1 := (hb.cell (p := ⟨bx, 1, none⟩) (Nat.lt_of_lt_of_le hbx hq.size)).trans c1
      replace hq := hq.trans (hb.mono hq.size)
      clear hb
      go_wp2
      go_region_held3 (fun U => U.cell? ⟨bx, 0, none⟩ = some (.string X) ∧ U.cell? ⟨bx, 1, none⟩ = some (.string Y)) (first | exact ⟨c0, c1⟩ | exact ⟨p0, p1⟩ | exact ⟨q0, q1⟩ | exact ⟨r0, r1⟩ | exact ⟨t0, t1⟩) (first
        | (go_at_call 19; refine (F_valid.out _ (he.below (below_to_drew (hT.trans (hq.mono hT.size))))).mono ?_; rintro e Wp ⟨rfl, hbp'⟩; have hbp := below_of_drew hbp'; have p0 := (hbp.cell (p := ⟨bx, 0, none⟩) (Nat.lt_of_lt_of_le hbx hq.size)).trans c0; have p1 := (hbp.cell (p := ⟨bx, 1, none⟩) (Nat.lt_of_lt_of_le hbx hq.size)).trans c1; have hqp := hq.trans (hbp.mono hq.size))
        | (go_at_call 33; refine (G_valid.out _ (he.below (hT.trans (hqp.mono hT.size)))).mono ?_; rintro e Wq ⟨rfl, hbq⟩; have q0 := (hbq.cell (p := ⟨bx, 0, none⟩) (Nat.lt_of_lt_of_le hbx hqp.size)).trans p0; have q1 := (hbq.cell (p := ⟨bx, 1, none⟩) (Nat.lt_of_lt_of_le hbx hqp.size)).trans p1; have hqq := hqp.trans (hbq.mono hqp.size))
        | (go_at_call 18; refine (F_cmp.out _ (he.below (hT.trans (hqq.mono hT.size)))).mono ?_; rintro e Wr ⟨rfl, hbr⟩; have r0 := (hbr.cell (p := ⟨bx, 0, none⟩) (Nat.lt_of_lt_of_le hbx hqq.size)).trans q0; have r1 := (hbr.cell (p := ⟨bx, 1, none⟩) (Nat.lt_of_lt_of_le hbx hqq.size)).trans q1; have hqr := hqq.trans (hbr.mono hqq.size))
        | (go_at_call 34; refine (G_cmp.out _ (he.below (hT.trans (hqr.mono hT.size)))).mono ?_; rintro e Wt ⟨rfl, hbt⟩; have t0 := (hbt.cell (p := ⟨bx, 0, none⟩) (Nat.lt_of_lt_of_le hbx hqr.size)).trans r0; have t1 := (hbt.cell (p := ⟨bx, 1, none⟩) (Nat.lt_of_lt_of_le hbx hqr.size)).trans r1; have hqt := hqr.trans (hbt.mono hqr.size)))
      go_wp2
      go_roundw
      case rel => exact ⟨k + 1, by omega, by go_num, hR0.trans (hqt.mono hR0.size)⟩
      case measure => simp [RowKit.intOf]; omega
    · obtain rfl : k = 3 := by omega
      have hq := hB1.trans (hBr.mono hB1.size)
      go_wp2_with fail
      refine (fromIntS Jn _ (he.below hq)).mono ?_
      rintro e W ⟨rfl, hb⟩
      replace hq := hq.trans (hb.mono hq.size)
      clear hb
      go_wp2_with fail
      refine (rfromIntS Jn _).mono ?_
      rintro e W ⟨rfl, hb⟩
      replace hq := hq.trans (hb.mono hq.size)
      clear hb
      go_wp2
      go_ret
      exact ⟨rfl, hq⟩
end Go.Proofs.YtnfkibgoockmpaaGreatDoor
