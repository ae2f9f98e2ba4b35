/-
  fold: the loop that combines groups, for whatever closure gives them.
-/
import Derived.Test.YtnfkibgoockmpaaGreatDoorNum
import Derived.Shelf.Abstract
namespace Go.Proofs.YtnfkibgoockmpaaGreatDoor
open Go Go.RowKit Go.Lib

set_option maxHeartbeats 2000000 in
set_option maxRecDepth 100000 in
/-- fold: the groups that a closure gives, with a carry that is passed on. -/
theorem fold_any (n : Nat) (g : FuncId) (lb : Array Value) (f : Nat → Int) (w : World) (eg : ∀ args w, (callFunc g args).run Tryz.prog w = .ok (.enter g args) w)
    (hd : Digits g lb f w) (hn : n ≤ 1000000) (hf : ∀ j, -9999 ≤ f j ∧ f j ≤ 99980001) (h0 : ∀ j, n ≤ j → f j = 0) (hpos : 0 ≤ sumF f n) :
    Calls Tryz.prog 68 #[.int .i64 (n : Int), .int .i64 0, .func (.func g) #[] lb] w
      fun e w' => ∃ A k c l, e = .returned (.slice A k c) ∧ k ≤ c ∧ NumV w' A k l ∧ Small l ∧ (val l : Int) = sumF f n ∧ k ≤ n + 1 ∧ Below w.heap.size w w' := by
  obtain ⟨i0, hi, hz0, hz1, hz2⟩ := info_parts intInfo
  have HD := Lib.hid hd
  have HF := Lib.hid hf
  have H0 := Lib.hid h0
  have HP := Lib.hid hpos
  clear hd hf h0 hpos
  go_enter Tryz.func68, Tryz.ntmps68
  go_wp2_with (at_make; refine wpList_make_own _ rfl _ _ 48 rfl w.heap.size 3 i0 (.int .i64 0) 1 Tryz.underlying48 hi hz0 hz1 .i64 .i64 _ (n + 1) rfl rfl (by omega) (by rw [hz2]; omega) (by unfold maxLen; omega) (Nat.le_refl _) ?_; intro w0 hown0 hgrow0)
  go_loopw [1, 7, 8] (fun c v i wr => ∃ (k : Nat) (cr : Int) (A : Option Addr) (cp : Nat) (l : List Nat), c = .int .i64 cr ∧ v = .slice A k cp ∧ i = .int .i64 (k : Int) ∧ wr.ownsRow w.heap.size 3 1 (.slice A k cp) k (ints l) ∧ Below w.heap.size w wr ∧ Hid (FoldInv f n k cr l) ∧ -1 ≤ cr ∧ cr ≤ 9999 ∧ k ≤ n + 1)
    (fun c _ i _ => (n + 2) - (intOf i).toNat)
  case atStart => exact ⟨0, 0, _, _, [], rfl, rfl, rfl, hown0, (Below.refl _ _).grown hgrow0 (Nat.le_refl _) (by simp), FoldInv.start f n, by omega, by omega, by omega⟩
  case round =>
    obtain ⟨k, cr, A, cp, l, rfl, rfl, rfl, hown, hB, hI, hc1, hc2, hk⟩ := hrel
    by_cases hend : n ≤ k ∧ cr = 0
    · obtain ⟨he1, rfl⟩ := hend
      go_wp2
      go_ret
      exact ⟨A, k, cp, l, rfl, own_le hown, Reads.of_own hown, hI.small, hI.done he1 rfl H0.out, hk, hB⟩
    · have hc := HD.out wr k hB
      have hfk := HF.out k
      have hkc : k < n ∨ cr ≠ 0 := by omega
      have HKC : Hid (k < n ∨ cr ≠ 0) := hkc
      generalize hx : f k = x at hc hfk
      have HX : Hid (f k = x) := hx
      have hcr0 : ¬ k < n → (cr != 0) = true := fun h => by simp; omega
      clear hx hend
      by_cases hs1 : x + cr < 0
      · by_cases hkn : k < n
        · have hst := Lib.hid (hI.out.step (x + cr + 10000).toNat (-1) (by omega) HKC.out (by rw [HX.out]; exact hfk) H0.out HP.out (by rw [HX.out]; omega))
          have hkl := hst.out.le
          clear hcr0 hkc
          go_wp2_with (first
            | (go_at_fn g; refine hc.mono ?_; rintro e W1 ⟨rfl, q, hq⟩; have hown1 : W1.ownsRow w.heap.size 3 1 (.slice A k cp) k (ints l) := (by rw [hq]; exact hown); have hB1 : Below w.heap.size w W1 := (by rw [hq]; exact below_drewN hB q); clear hq)
            | (at_builtin; refine wpList_append_own _ rfl (.tmp 37) (.tmp 39) 48 rfl w.heap.size 3 i0 (.int .i64 0) 1 8 Tryz.underlying48 hi hz0 hz1 hz2 rfl (by decide) (.slice A k cp) k (ints l) rfl (hown1.alloc _) ⟨W1.heap.size, 0, none⟩ 1 1 [.int .i64 (x + cr + 10000)] rfl rfl (cell_one_new _ _ _) (by simp [Value.oneCell']) (by unfold maxLen; omega) (by omega) (by have := hB1.size; simp; omega) ?_; intro v' w2 hown2 hgrow2 _; obtain ⟨A2, c2, rfl⟩ := own_slice hown2))
          go_roundw
          case rel => exact ⟨k + 1, -1, A2, c2, l ++ [(x + cr + 10000).toNat], rfl, rfl, by go_num, by rw [← ints_snoc _ _ (by omega)]; exact hown2, (hB1.alloc hB1.size _).grown hgrow2 (by have := hB1.size; simp; omega) (own_ge hown1), hst.out, hst.out.lo, hst.out.hi, hkl⟩
          case measure => simp [intOf]; omega
        · have hcr1 := hcr0 hkn
          have hst := Lib.hid (hI.out.step (x + cr + 10000).toNat (-1) (by omega) HKC.out (by rw [HX.out]; exact hfk) H0.out HP.out (by rw [HX.out]; omega))
          have hkl := hst.out.le
          clear hcr0 hkc
          go_wp2_with (first
            | (go_at_fn g; refine hc.mono ?_; rintro e W1 ⟨rfl, q, hq⟩; have hown1 : W1.ownsRow w.heap.size 3 1 (.slice A k cp) k (ints l) := (by rw [hq]; exact hown); have hB1 : Below w.heap.size w W1 := (by rw [hq]; exact below_drewN hB q); clear hq)
            | (at_builtin; refine wpList_append_own _ rfl (.tmp 37) (.tmp 39) 48 rfl w.heap.size 3 i0 (.int .i64 0) 1 8 Tryz.underlying48 hi hz0 hz1 hz2 rfl (by decide) (.slice A k cp) k (ints l) rfl (hown1.alloc _) ⟨W1.heap.size, 0, none⟩ 1 1 [.int .i64 (x + cr + 10000)] rfl rfl (cell_one_new _ _ _) (by simp [Value.oneCell']) (by unfold maxLen; omega) (by omega) (by have := hB1.size; simp; omega) ?_; intro v' w2 hown2 hgrow2 _; obtain ⟨A2, c2, rfl⟩ := own_slice hown2))
          go_roundw
          case rel => exact ⟨k + 1, -1, A2, c2, l ++ [(x + cr + 10000).toNat], rfl, rfl, by go_num, by rw [← ints_snoc _ _ (by omega)]; exact hown2, (hB1.alloc hB1.size _).grown hgrow2 (by have := hB1.size; simp; omega) (own_ge hown1), hst.out, hst.out.lo, hst.out.hi, hkl⟩
          case measure => simp [intOf]; omega
      · by_cases hs2 : 10000 ≤ x + cr
        · by_cases hkn : k < n
          · have hst := Lib.hid (hI.out.step ((x + cr) % 10000).toNat ((x + cr) / 10000) (by omega) HKC.out (by rw [HX.out]; exact hfk) H0.out HP.out (by rw [HX.out]; omega))
            have hkl := hst.out.le
            clear hcr0 hkc
            go_wp2_with (first
              | (go_at_fn g; refine hc.mono ?_; rintro e W1 ⟨rfl, q, hq⟩; have hown1 : W1.ownsRow w.heap.size 3 1 (.slice A k cp) k (ints l) := (by rw [hq]; exact hown); have hB1 : Below w.heap.size w W1 := (by rw [hq]; exact below_drewN hB q); clear hq)
              | (at_builtin; refine wpList_append_own _ rfl (.tmp 37) (.tmp 39) 48 rfl w.heap.size 3 i0 (.int .i64 0) 1 8 Tryz.underlying48 hi hz0 hz1 hz2 rfl (by decide) (.slice A k cp) k (ints l) rfl (hown1.alloc _) ⟨W1.heap.size, 0, none⟩ 1 1 [.int .i64 ((x + cr) % 10000)] rfl rfl (cell_one_new _ _ _) (by simp [Value.oneCell']) (by unfold maxLen; omega) (by omega) (by have := hB1.size; simp; omega) ?_; intro v' w2 hown2 hgrow2 _; obtain ⟨A2, c2, rfl⟩ := own_slice hown2))
            go_roundw
            case rel => exact ⟨k + 1, (x + cr) / 10000, A2, c2, l ++ [((x + cr) % 10000).toNat], rfl, rfl, by go_num, by rw [← ints_snoc _ _ (by omega)]; exact hown2, (hB1.alloc hB1.size _).grown hgrow2 (by have := hB1.size; simp; omega) (own_ge hown1), hst.out, hst.out.lo, hst.out.hi, hkl⟩
            case measure => simp [intOf]; omega
          · have hcr1 := hcr0 hkn
            have hst := Lib.hid (hI.out.step ((x + cr) % 10000).toNat ((x + cr) / 10000) (by omega) HKC.out (by rw [HX.out]; exact hfk) H0.out HP.out (by rw [HX.out]; omega))
            have hkl := hst.out.le
            clear hcr0 hkc
            go_wp2_with (first
              | (go_at_fn g; refine hc.mono ?_; rintro e W1 ⟨rfl, q, hq⟩; have hown1 : W1.ownsRow w.heap.size 3 1 (.slice A k cp) k (ints l) := (by rw [hq]; exact hown); have hB1 : Below w.heap.size w W1 := (by rw [hq]; exact below_drewN hB q); clear hq)
              | (at_builtin; refine wpList_append_own _ rfl (.tmp 37) (.tmp 39) 48 rfl w.heap.size 3 i0 (.int .i64 0) 1 8 Tryz.underlying48 hi hz0 hz1 hz2 rfl (by decide) (.slice A k cp) k (ints l) rfl (hown1.alloc _) ⟨W1.heap.size, 0, none⟩ 1 1 [.int .i64 ((x + cr) % 10000)] rfl rfl (cell_one_new _ _ _) (by simp [Value.oneCell']) (by unfold maxLen; omega) (by omega) (by have := hB1.size; simp; omega) ?_; intro v' w2 hown2 hgrow2 _; obtain ⟨A2, c2, rfl⟩ := own_slice hown2))
            go_roundw
            case rel => exact ⟨k + 1, (x + cr) / 10000, A2, c2, l ++ [((x + cr) % 10000).toNat], rfl, rfl, by go_num, by rw [← ints_snoc _ _ (by omega)]; exact hown2, (hB1.alloc hB1.size _).grown hgrow2 (by have := hB1.size; simp; omega) (own_ge hown1), hst.out, hst.out.lo, hst.out.hi, hkl⟩
            case measure => simp [intOf]; omega
        · by_cases hkn : k < n
          · have hst := Lib.hid (hI.out.step (x + cr).toNat (0) (by omega) HKC.out (by rw [HX.out]; exact hfk) H0.out HP.out (by rw [HX.out]; omega))
            have hkl := hst.out.le
            clear hcr0 hkc
            go_wp2_with (first
              | (go_at_fn g; refine hc.mono ?_; rintro e W1 ⟨rfl, q, hq⟩; have hown1 : W1.ownsRow w.heap.size 3 1 (.slice A k cp) k (ints l) := (by rw [hq]; exact hown); have hB1 : Below w.heap.size w W1 := (by rw [hq]; exact below_drewN hB q); clear hq)
              | (at_builtin; refine wpList_append_own _ rfl (.tmp 37) (.tmp 39) 48 rfl w.heap.size 3 i0 (.int .i64 0) 1 8 Tryz.underlying48 hi hz0 hz1 hz2 rfl (by decide) (.slice A k cp) k (ints l) rfl (hown1.alloc _) ⟨W1.heap.size, 0, none⟩ 1 1 [.int .i64 (x + cr)] rfl rfl (cell_one_new _ _ _) (by simp [Value.oneCell']) (by unfold maxLen; omega) (by omega) (by have := hB1.size; simp; omega) ?_; intro v' w2 hown2 hgrow2 _; obtain ⟨A2, c2, rfl⟩ := own_slice hown2))
            go_roundw
            case rel => exact ⟨k + 1, 0, A2, c2, l ++ [(x + cr).toNat], rfl, rfl, by go_num, by rw [← ints_snoc _ _ (by omega)]; exact hown2, (hB1.alloc hB1.size _).grown hgrow2 (by have := hB1.size; simp; omega) (own_ge hown1), hst.out, hst.out.lo, hst.out.hi, hkl⟩
            case measure => simp [intOf]; omega
          · have hcr1 := hcr0 hkn
            have hst := Lib.hid (hI.out.step (x + cr).toNat (0) (by omega) HKC.out (by rw [HX.out]; exact hfk) H0.out HP.out (by rw [HX.out]; omega))
            have hkl := hst.out.le
            clear hcr0 hkc
            go_wp2_with (first
              | (go_at_fn g; refine hc.mono ?_; rintro e W1 ⟨rfl, q, hq⟩; have hown1 : W1.ownsRow w.heap.size 3 1 (.slice A k cp) k (ints l) := (by rw [hq]; exact hown); have hB1 : Below w.heap.size w W1 := (by rw [hq]; exact below_drewN hB q); clear hq)
              | (at_builtin; refine wpList_append_own _ rfl (.tmp 37) (.tmp 39) 48 rfl w.heap.size 3 i0 (.int .i64 0) 1 8 Tryz.underlying48 hi hz0 hz1 hz2 rfl (by decide) (.slice A k cp) k (ints l) rfl (hown1.alloc _) ⟨W1.heap.size, 0, none⟩ 1 1 [.int .i64 (x + cr)] rfl rfl (cell_one_new _ _ _) (by simp [Value.oneCell']) (by unfold maxLen; omega) (by omega) (by have := hB1.size; simp; omega) ?_; intro v' w2 hown2 hgrow2 _; obtain ⟨A2, c2, rfl⟩ := own_slice hown2))
            go_roundw
            case rel => exact ⟨k + 1, 0, A2, c2, l ++ [(x + cr).toNat], rfl, rfl, by go_num, by rw [← ints_snoc _ _ (by omega)]; exact hown2, (hB1.alloc hB1.size _).grown hgrow2 (by have := hB1.size; simp; omega) (own_ge hown1), hst.out, hst.out.lo, hst.out.hi, hkl⟩
            case measure => simp [intOf]; omega
end Go.Proofs.YtnfkibgoockmpaaGreatDoor
