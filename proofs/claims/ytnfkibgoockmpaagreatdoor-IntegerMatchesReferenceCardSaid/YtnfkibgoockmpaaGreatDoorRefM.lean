/-
  The reference implementation: differences of lists of digits.
-/
import Derived.Test.YtnfkibgoockmpaaGreatDoorRefP
namespace Go.Proofs.YtnfkibgoockmpaaGreatDoor
open Go Go.RowKit Go.Lib

theorem IsD.len_le {w : World} {A B : Option Addr} {n c m d x y : Nat} (hx : IsD w A n c x) (hy : IsD w B m d y) (h : y ≤ x) : m ≤ n := by
  obtain ⟨a, ha, na, va, _⟩ := hx
  obtain ⟨b, hb, nb, vb, _⟩ := hy
  rw [ha.len, hb.len]
  rcases Nat.lt_or_ge a.length b.length with h1 | h1
  · have := na.lt_of_length nb h1; omega
  · exact h1
set_option maxRecDepth 100000 in
set_option maxHeartbeats 4000000 in
theorem rminus_any (A B : Option Addr) (n c m d x y : Nat) (w : World) (hx : IsD w A n c x) (hy : IsD w B m d y) (hn : n ≤ 1000) (hyx : y ≤ x) :
    Calls Tryz.prog 54 #[.slice A n c, .slice B m d] w (GivesD (x - y) w) := by
  obtain ⟨i0, hi, hz0, hz1, hz2⟩ := info_parts intInfo
  have hmn := Lib.hid (hx.len_le hy hyx)
  obtain ⟨a, ha, na, va, _⟩ := hx
  obtain ⟨b, hb, nb, vb, _⟩ := hy
  have HA := Lib.hid ha
  have HBB := Lib.hid hb
  have hal := Lib.hid ha.len
  have hbl := Lib.hid hb.len
  have HLE : Hid (val10 b ≤ val10 a) := Lib.hid (by rw [va, vb]; exact hyx)
  have HV : Hid (val10 a - val10 b = x - y) := Lib.hid (by rw [va, vb])
  clear ha hb va vb hyx
  go_enter Tryz.func54, Tryz.ntmps54
  go_wp2
  go_loopw [5, 6, 7] (fun v cv' i wr => ∃ (k br : Nat) (V : Option Addr) (cv : Nat) (r : List Nat), v = .slice V k cv ∧ cv' = .int .i64 (br : Int) ∧ i = .int .i64 (k : Int) ∧ wr.ownsRow w.heap.size 3 1 (.slice V k cv) k (ints r) ∧ Below w.heap.size w wr ∧ Hid (MInv a b k br r) ∧ br ≤ 1 ∧ k ≤ n)
    (fun _ _ i _ => n - (intOf i).toNat)
  case atStart => exact ⟨0, 0, none, 0, [], rfl, rfl, rfl, World.ownsRow_nil _ _ _ _, Below.refl _ _, MInv.start a b, by omega, by omega⟩
  case round =>
    obtain ⟨k, br, V, cv, r, rfl, rfl, rfl, hown, hB, hI, hbr, hk⟩ := hrel
    have hga := na.1.get k
    have hgb := nb.1.get k
    by_cases h1 : k < n
    · obtain ⟨ad, hA, hbl1, hc1⟩ := HA.out.cell k h1
      subst hA
      have g1 : wr.cell? (ad.add k) = some (.int .i64 ((a.getD k 0 : Nat) : Int)) := (hB.cell (by rw [block_of_add]; exact hbl1)).trans hc1
      clear hc1 hbl1
      have hst := fun d br' => hI.out.step d br'
      by_cases h2 : k < m
      · obtain ⟨ad', hA', hbl2, hc2⟩ := HBB.out.cell k h2
        subst hA'
        have g2 : wr.cell? (ad'.add k) = some (.int .i64 ((b.getD k 0 : Nat) : Int)) := (hB.cell (by rw [block_of_add]; exact hbl2)).trans hc2
        clear hc2 hbl2
        generalize a.getD k 0 = x1 at *
        generalize b.getD k 0 = y1 at *
        by_cases hng : (x1 : Int) - br - y1 < 0
        · obtain ⟨D, hD⟩ : ∃ D : Int, D = ((x1 : Int) - br - y1 + 10) := ⟨_, rfl⟩
          have hst' := Lib.hid (hst D.toNat 1 (by omega) (by omega) (by omega))
          clear hst
          have hD0 : 0 ≤ D := by omega
          have hD9 : D < 10 := by omega
          have hDe : (x1 : Int) - br - y1 + 10 = D := hD.symm
          clear hD
          go_wp2_with (at_builtin; refine wpList_append_own _ rfl (.tmp 35) (.tmp 37) 44 rfl w.heap.size 3 i0 (.int .i64 0) 1 8 Tryz.underlying44 hi hz0 hz1 hz2 rfl (by decide) (.slice V k cv) k (ints r) rfl (hown.alloc _) ⟨wr.heap.size, 0, none⟩ 1 1 [.int .i64 (D)] rfl rfl (cell_one_new _ _ _) (by simp [Value.oneCell']) (by unfold maxLen; omega) (by omega) (by have := hB.size; simp; omega) ?_; intro v' w3 hown3 hgrow3 _; obtain ⟨V3, c3, rfl⟩ := own_slice hown3)
          go_roundw
          case rel => exact ⟨k + 1, 1, V3, c3, r ++ [D.toNat], rfl, rfl, by go_num, by rw [← ints_snoc _ _ hD0]; exact hown3, (hB.alloc hB.size _).grown hgrow3 (by have := hB.size; simp; omega) (own_ge hown), hst', by omega, by omega⟩
          case measure => simp [intOf]; omega
        · obtain ⟨D, hD⟩ : ∃ D : Int, D = ((x1 : Int) - br - y1) := ⟨_, rfl⟩
          have hst' := Lib.hid (hst D.toNat 0 (by omega) (by omega) (by omega))
          clear hst
          have hD0 : 0 ≤ D := by omega
          have hD9 : D < 10 := by omega
          have hDe : (x1 : Int) - br - y1 = D := hD.symm
          clear hD
          go_wp2_with (at_builtin; refine wpList_append_own _ rfl (.tmp 35) (.tmp 37) 44 rfl w.heap.size 3 i0 (.int .i64 0) 1 8 Tryz.underlying44 hi hz0 hz1 hz2 rfl (by decide) (.slice V k cv) k (ints r) rfl (hown.alloc _) ⟨wr.heap.size, 0, none⟩ 1 1 [.int .i64 (D)] rfl rfl (cell_one_new _ _ _) (by simp [Value.oneCell']) (by unfold maxLen; omega) (by omega) (by have := hB.size; simp; omega) ?_; intro v' w3 hown3 hgrow3 _; obtain ⟨V3, c3, rfl⟩ := own_slice hown3)
          go_roundw
          case rel => exact ⟨k + 1, 0, V3, c3, r ++ [D.toNat], rfl, rfl, by go_num, by rw [← ints_snoc _ _ hD0]; exact hown3, (hB.alloc hB.size _).grown hgrow3 (by have := hB.size; simp; omega) (own_ge hown), hst', by omega, by omega⟩
          case measure => simp [intOf]; omega
      · have e1 : b.getD k 0 = 0 := by rw [List.getD_eq_getElem?_getD, List.getElem?_eq_none (by have := hbl.out; omega)]; rfl
        rw [e1] at hst hgb
        clear e1
        generalize a.getD k 0 = x1 at *
        by_cases hng : (x1 : Int) - br < 0
        · obtain ⟨D, hD⟩ : ∃ D : Int, D = ((x1 : Int) - br + 10) := ⟨_, rfl⟩
          have hst' := Lib.hid (hst D.toNat 1 (by omega) (by omega) (by omega))
          clear hst
          have hD0 : 0 ≤ D := by omega
          have hD9 : D < 10 := by omega
          have hDe : (x1 : Int) - br + 10 = D := hD.symm
          clear hD
          go_wp2_with (at_builtin; refine wpList_append_own _ rfl (.tmp 35) (.tmp 37) 44 rfl w.heap.size 3 i0 (.int .i64 0) 1 8 Tryz.underlying44 hi hz0 hz1 hz2 rfl (by decide) (.slice V k cv) k (ints r) rfl (hown.alloc _) ⟨wr.heap.size, 0, none⟩ 1 1 [.int .i64 (D)] rfl rfl (cell_one_new _ _ _) (by simp [Value.oneCell']) (by unfold maxLen; omega) (by omega) (by have := hB.size; simp; omega) ?_; intro v' w3 hown3 hgrow3 _; obtain ⟨V3, c3, rfl⟩ := own_slice hown3)
          go_roundw
          case rel => exact ⟨k + 1, 1, V3, c3, r ++ [D.toNat], rfl, rfl, by go_num, by rw [← ints_snoc _ _ hD0]; exact hown3, (hB.alloc hB.size _).grown hgrow3 (by have := hB.size; simp; omega) (own_ge hown), hst', by omega, by omega⟩
          case measure => simp [intOf]; omega
        · obtain ⟨D, hD⟩ : ∃ D : Int, D = ((x1 : Int) - br) := ⟨_, rfl⟩
          have hst' := Lib.hid (hst D.toNat 0 (by omega) (by omega) (by omega))
          clear hst
          have hD0 : 0 ≤ D := by omega
          have hD9 : D < 10 := by omega
          have hDe : (x1 : Int) - br = D := hD.symm
          clear hD
          go_wp2_with (at_builtin; refine wpList_append_own _ rfl (.tmp 35) (.tmp 37) 44 rfl w.heap.size 3 i0 (.int .i64 0) 1 8 Tryz.underlying44 hi hz0 hz1 hz2 rfl (by decide) (.slice V k cv) k (ints r) rfl (hown.alloc _) ⟨wr.heap.size, 0, none⟩ 1 1 [.int .i64 (D)] rfl rfl (cell_one_new _ _ _) (by simp [Value.oneCell']) (by unfold maxLen; omega) (by omega) (by have := hB.size; simp; omega) ?_; intro v' w3 hown3 hgrow3 _; obtain ⟨V3, c3, rfl⟩ := own_slice hown3)
          go_roundw
          case rel => exact ⟨k + 1, 0, V3, c3, r ++ [D.toNat], rfl, rfl, by go_num, by rw [← ints_snoc _ _ hD0]; exact hown3, (hB.alloc hB.size _).grown hgrow3 (by have := hB.size; simp; omega) (own_ge hown), hst', by omega, by omega⟩
          case measure => simp [intOf]; omega
    · obtain rfl : k = n := by omega
      have hI2 := hI.out
      rw [hal.out] at hI2
      have hfin := Lib.hid (hI2.done (by have := hal.out; have := hbl.out; have := hmn.out; omega) HLE.out)
      have hsm := hI2.small
      have hnum : NumV wr V k r := Reads.of_own hown
      have hcap := own_le hown
      clear hga hgb hI2
      go_wp2_with (go_at_call 37; refine (trim_any V k cv r _ hnum (by omega) hcap hsm).mono ?_; rintro e w2 ⟨⟨k', rfl, hk', hN', hnorm, hval⟩, rfl⟩)
      go_ret
      exact ⟨V, k', cv, rfl, ⟨r.take k', hN', hnorm, by rw [hval, hfin.out]; exact HV.out, by omega⟩, hB, fun ad e => own_ge hown _ (by rw [e]; rfl)⟩
end Go.Proofs.YtnfkibgoockmpaaGreatDoor
