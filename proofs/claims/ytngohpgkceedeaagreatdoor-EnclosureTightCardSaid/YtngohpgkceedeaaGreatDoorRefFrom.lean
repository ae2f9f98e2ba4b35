/-
  The reference implementation: numbers of the machine.
-/
import Derived.Test.YtngohpgkceedeaaGreatDoorRefF
namespace Go.Proofs.YtngohpgkceedeaaGreatDoor
open Go Go.RowKit Go.Lib Go.Shelf

/-- The digits that have been taken off. -/
structure FInv (u m : Nat) (l : List Nat) : Prop where
  small : Small10 l
  eq : val10 l + 10 ^ l.length * m = u
  top : l ≠ [] → 10 ^ (l.length - 1) ≤ u
theorem FInv.start (u : Nat) : FInv u u [] := ⟨small10_nil, by simp [val10], fun h => absurd rfl h⟩
theorem FInv.step {u m : Nat} {l : List Nat} (h : FInv u m l) (hm : 0 < m) : FInv u (m / 10) (l ++ [m % 10]) := by
  have he := h.eq
  have hdm := Nat.div_add_mod m 10
  refine ⟨h.small.append (Small10.mk (Nat.mod_lt _ (by decide)) small10_nil), ?_, fun _ => ?_⟩
  · rw [val10_snoc, List.length_append, List.length_cons, List.length_nil, Nat.zero_add, Nat.pow_succ]
    generalize m / 10 = q at *
    generalize m % 10 = r at *
    rw [← hdm, Nat.mul_add] at he
    rw [Nat.mul_comm r, Nat.mul_assoc]
    omega
  · rw [List.length_append, List.length_cons, List.length_nil, Nat.zero_add, Nat.add_sub_cancel]
    have : 10 ^ l.length ≤ 10 ^ l.length * m := Nat.le_mul_of_pos_right _ hm
    omega
theorem FInv.len {u m : Nat} {l : List Nat} (h : FInv u m l) (hu : u ≤ 9223372036854775808) : l.length ≤ 19 := by
  by_cases hl : l = []
  · subst hl; simp
  · have h1 := h.top hl
    have h2 : (10 : Nat) ^ (l.length - 1) < 10 ^ 19 := by
      have : (9223372036854775808 : Nat) < 10 ^ 19 := by decide
      omega
    have := (Nat.pow_lt_pow_iff_right (by decide : 1 < 10)).1 h2
    omega
theorem FInv.done {u : Nat} {l : List Nat} (h : FInv u 0 l) : Norm10 l ∧ val10 l = u := by
  have hv : val10 l = u := by have := h.eq; omega
  refine ⟨?_, hv⟩
  by_cases hl : l = []
  · subst hl; exact norm10_nil
  · exact norm10_of_ge h.small hl (by rw [hv]; exact h.top hl)
theorem tneg (m : Int) (h : m ≤ 0) : m.tmod 10 ≤ 0 ∧ m.tdiv 10 ≤ 0 := by
  obtain ⟨p, rfl⟩ : ∃ p : Int, m = -p := ⟨-m, by omega⟩
  rw [Int.neg_tmod, Int.neg_tdiv]
  have h1 : 0 ≤ p.tmod 10 := Int.tmod_nonneg _ (by omega)
  have h2 : 0 ≤ p.tdiv 10 := Int.tdiv_nonneg (by omega) (by omega)
  omega
theorem FInv.done0 {u : Nat} {l : List Nat} (h : FInv u (Int.natAbs 0) l) : Norm10 l ∧ val10 l = u := FInv.done h
set_option maxRecDepth 100000 in
set_option maxHeartbeats 2000000 in
theorem rfrom_nn (n : Int) (hj : IsInt n) (hn : 0 ≤ n) (w : World) : Calls Tryz.prog 133 #[.int .i64 n] w (FromOk n w) := by
  obtain ⟨i0, hi, hz0, hz1, hz2⟩ := info_parts intInfo
  have b0 := hj.1
  have b1 := hj.2
  have hs : Hid (sv false n.natAbs = n) := Lib.hid (by simp [sv]; omega)
  have hn9 : decide (n < 0) = false := decide_eq_false (by omega)
  go_enter Tryz.func133, Tryz.ntmps133
  go_wp2
  go_loopw [3, 4] (fun v mv wr => ∃ (mm : Int) (k : Nat) (V : Option Addr) (cv : Nat) (l : List Nat), v = .slice V k cv ∧ mv = .int .i64 mm ∧ wr.ownsRow w.heap.size 3 1 (.slice V k cv) k (ints l) ∧ Below w.heap.size w wr ∧ Hid (FInv n.natAbs mm.natAbs l) ∧ 0 ≤ mm ∧ -9223372036854775808 ≤ mm ∧ mm ≤ 9223372036854775807)
    (fun _ mv _ => (RowKit.intOf mv).natAbs)
  case atStart => exact ⟨n, 0, none, 0, [], rfl, rfl, World.ownsRow_nil _ _ _ _, Below.refl _ _, FInv.start _, by omega, by omega, by omega⟩
  case round =>
    obtain ⟨mm, k, V, cv, l, rfl, rfl, hown, hB, hI, hm0, hm1, hm2⟩ := hrel
    have hlen := hI.out.len (by omega)
    have hkl : k = l.length := by have := hown.1; simpa [ints] using this.symm
    have hk : k ≤ 19 := by omega
    clear hlen hkl
    by_cases hz : mm = 0
    · subst hz
      have hd := Lib.hid hI.out.done0
      clear hI
      have hnum : NumV wr V k l := Reads.of_own hown
      have hcap := own_le hown
      have hisd : IsD wr V k cv n.natAbs := ⟨l, hnum, hd.out.1, hd.out.2, hcap⟩
      go_wp2_with (go_at_call 166; go_must ((with_reducible refine (rtextD false hs _ hisd (by omega)).mono ?_); rintro e w2 ⟨rfl, hb2⟩))
      go_ret
      exact ⟨rfl, hB.trans (hb2.mono hB.size)⟩
    · have hne : (mm == 0) = false := by simpa using hz
      have hst := Lib.hid (hI.out.step (by omega))
      have hmp : 0 < mm := by omega
      have hD := Lib.hid (show (mm % 10).toNat = mm.natAbs % 10 by omega)
      have hQ := Lib.hid (show (mm / 10).natAbs = mm.natAbs / 10 by omega)
      clear hz
      go_wp2_with (at_builtin; refine wpList_append_own _ rfl (.tmp 19) (.tmp 21) 58 rfl w.heap.size 3 i0 (.int .i64 0) 1 8 Tryz.underlying58 hi hz0 hz1 hz2 rfl (by decide) (.slice V k cv) k (ints l) rfl (hown.alloc _) ⟨wr.heap.size, 0, none⟩ 1 1 [.int .i64 (mm % 10)] rfl rfl (cell_one_new _ _ _) (by simp [Value.oneCell']) (by unfold maxLen; omega) (by omega) (by have := hB.size; simp; omega) ?_; intro v' w3 hown3 hgrow3 _; obtain ⟨V3, c3, rfl⟩ := own_slice hown3)
      go_roundw
      case rel => exact ⟨mm / 10, k + 1, V3, c3, l ++ [(mm % 10).toNat], rfl, rfl, by rw [← ints_snoc _ _ (by omega)]; exact hown3, (hB.alloc hB.size _).grown hgrow3 (by have := hB.size; simp; omega) (own_ge hown), by rw [hD.out, hQ.out]; exact hst, by omega, by omega, by omega⟩
      case measure => simp only [RowKit.intOf]; omega
set_option maxRecDepth 100000 in
set_option maxHeartbeats 2000000 in
theorem rfrom_neg (n : Int) (hj : IsInt n) (hn : n < 0) (w : World) : Calls Tryz.prog 133 #[.int .i64 n] w (FromOk n w) := by
  obtain ⟨i0, hi, hz0, hz1, hz2⟩ := info_parts intInfo
  have b0 := hj.1
  have b1 := hj.2
  have hs : Hid (sv true n.natAbs = n) := Lib.hid (by simp [sv]; omega)
  go_enter Tryz.func133, Tryz.ntmps133
  go_wp2
  go_loopw [3, 4] (fun v mv wr => ∃ (mm : Int) (k : Nat) (V : Option Addr) (cv : Nat) (l : List Nat), v = .slice V k cv ∧ mv = .int .i64 mm ∧ wr.ownsRow w.heap.size 3 1 (.slice V k cv) k (ints l) ∧ Below w.heap.size w wr ∧ Hid (FInv n.natAbs mm.natAbs l) ∧ mm ≤ 0 ∧ -9223372036854775808 ≤ mm ∧ mm ≤ 9223372036854775807)
    (fun _ mv _ => (RowKit.intOf mv).natAbs)
  case atStart => exact ⟨n, 0, none, 0, [], rfl, rfl, World.ownsRow_nil _ _ _ _, Below.refl _ _, FInv.start _, by omega, by omega, by omega⟩
  case round =>
    obtain ⟨mm, k, V, cv, l, rfl, rfl, hown, hB, hI, hm0, hm1, hm2⟩ := hrel
    have hlen := hI.out.len (by omega)
    have hkl : k = l.length := by have := hown.1; simpa [ints] using this.symm
    have hk : k ≤ 19 := by omega
    clear hlen hkl
    by_cases hz : mm = 0
    · subst hz
      have hd := Lib.hid hI.out.done0
      clear hI
      have hnum : NumV wr V k l := Reads.of_own hown
      have hcap := own_le hown
      have hisd : IsD wr V k cv n.natAbs := ⟨l, hnum, hd.out.1, hd.out.2, hcap⟩
      go_wp2_with (go_at_call 166; go_must ((with_reducible refine (rtextD true hs _ hisd (by omega)).mono ?_); rintro e w2 ⟨rfl, hb2⟩))
      go_ret
      exact ⟨rfl, hB.trans (hb2.mono hB.size)⟩
    · have hne : (mm == 0) = false := by simpa using hz
      have hst := Lib.hid (hI.out.step (by omega))
      have hmp : mm < 0 := by omega
      have ht0 : (mm.tmod 10).natAbs = mm.natAbs % 10 := by rw [Int.natAbs_tmod]; rfl
      have hu0 : (mm.tdiv 10).natAbs = mm.natAbs / 10 := by rw [Int.natAbs_tdiv]; rfl
      obtain ⟨hts, hus⟩ := tneg mm (by omega)
      obtain ⟨t, et⟩ : ∃ t, mm.tmod 10 = t := ⟨_, rfl⟩
      obtain ⟨u, eu⟩ : ∃ u, mm.tdiv 10 = u := ⟨_, rfl⟩
      rw [et] at ht0 hts
      rw [eu] at hu0 hus
      have t1 : -10 < t := by omega
      have u1 : -9223372036854775808 ≤ u := by omega
      have HT := Lib.hid ht0
      have HU := Lib.hid hu0
      have hlt : u.natAbs < mm.natAbs := by omega
      clear hz ht0 hu0
      by_cases htn : t < 0
      · go_wp2_with (at_builtin; refine wpList_append_own _ rfl (.tmp 19) (.tmp 21) 58 rfl w.heap.size 3 i0 (.int .i64 0) 1 8 Tryz.underlying58 hi hz0 hz1 hz2 rfl (by decide) (.slice V k cv) k (ints l) rfl (hown.alloc _) ⟨wr.heap.size, 0, none⟩ 1 1 [.int .i64 (-t)] rfl rfl (cell_one_new _ _ _) (by simp [Value.oneCell']) (by unfold maxLen; omega) (by omega) (by have := hB.size; simp; omega) ?_; intro v' w3 hown3 hgrow3 _; obtain ⟨V3, c3, rfl⟩ := own_slice hown3)
        go_roundw
        case rel => exact ⟨u, k + 1, V3, c3, l ++ [(-t).toNat], rfl, rfl, by rw [← ints_snoc _ _ (by omega)]; exact hown3, (hB.alloc hB.size _).grown hgrow3 (by have := hB.size; simp; omega) (own_ge hown), by rw [show (-t).toNat = mm.natAbs % 10 by have := HT.out; omega, HU.out]; exact hst, by omega, by omega, by omega⟩
        case measure => simp only [RowKit.intOf]; exact hlt
      · obtain rfl : t = 0 := by omega
        go_wp2_with (at_builtin; refine wpList_append_own _ rfl (.tmp 19) (.tmp 21) 58 rfl w.heap.size 3 i0 (.int .i64 0) 1 8 Tryz.underlying58 hi hz0 hz1 hz2 rfl (by decide) (.slice V k cv) k (ints l) rfl (hown.alloc _) ⟨wr.heap.size, 0, none⟩ 1 1 [.int .i64 (0)] rfl rfl (cell_one_new _ _ _) (by simp [Value.oneCell']) (by unfold maxLen; omega) (by omega) (by have := hB.size; simp; omega) ?_; intro v' w3 hown3 hgrow3 _; obtain ⟨V3, c3, rfl⟩ := own_slice hown3)
        go_roundw
        case rel => exact ⟨u, k + 1, V3, c3, l ++ [(0 : Int).toNat], rfl, rfl, by rw [← ints_snoc _ _ (by omega)]; exact hown3, (hB.alloc hB.size _).grown hgrow3 (by have := hB.size; simp; omega) (own_ge hown), by rw [show (0 : Int).toNat = mm.natAbs % 10 by have := HT.out; omega, HU.out]; exact hst, by omega, by omega, by omega⟩
        case measure => simp only [RowKit.intOf]; exact hlt
theorem rfromIntS {n : Int} (h : Hid (IsInt n)) (w : World) : Calls Tryz.prog 133 #[.int .i64 n] w (FromOk n w) := by
  by_cases hn : n < 0
  · exact rfrom_neg n h.out hn w
  · exact rfrom_nn n h.out (by omega) w
end Go.Proofs.YtngohpgkceedeaaGreatDoor
