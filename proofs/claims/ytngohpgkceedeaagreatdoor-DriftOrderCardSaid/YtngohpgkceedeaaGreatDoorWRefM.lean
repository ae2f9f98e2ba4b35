/-
  The reference implementation: sums and differences of lists of digits.
-/
import Derived.Test.YtngohpgkceedeaaGreatDoorWRefO
namespace Go.Proofs.YtngohpgkceedeaaGreatDoor
open Go Go.RowKit Go.Lib

theorem take_gd (l : List Nat) (k : Nat) : val10 (l.take (k + 1)) = val10 (l.take k) + l.getD k 0 * 10 ^ k := by
  rcases Nat.lt_or_ge k l.length with h | h
  · have e : l.take (k + 1) = l.take k ++ [l.getD k 0] := by
      rw [List.take_succ_eq_append_getElem h, List.getD_eq_getElem?_getD, List.getElem?_eq_getElem h]; rfl
    rw [e, val10_snoc, List.length_take, Nat.min_eq_left (by omega)]
  · have e0 : l.getD k 0 = 0 := by rw [List.getD_eq_getElem?_getD, List.getElem?_eq_none h]; rfl
    rw [e0, List.take_of_length_le (by omega), List.take_of_length_le (by omega)]
    simp
theorem norm10_of_ge {l : List Nat} (h : Small10 l) (hn : l ≠ []) (hv : 10 ^ (l.length - 1) ≤ val10 l) : Norm10 l := by
  refine ⟨h, fun e => ?_⟩
  obtain ⟨m, d, rfl⟩ : ∃ m d, l = m ++ [d] := ⟨l.dropLast, l.getLast hn, (List.dropLast_concat_getLast hn).symm⟩
  simp at e
  subst e
  have h1 := val10_lt (fun x hx => h x (List.mem_append_left _ hx) : Small10 m)
  rw [val10_snoc, List.length_append] at hv
  simp at hv
  omega
/-- What holds of a sum's first digits. -/
structure PInv (a b : List Nat) (k cr : Nat) (l : List Nat) : Prop where
  len : l.length = k
  small : Small10 l
  cr1 : cr ≤ 1
  eq : val10 l + cr * 10 ^ k = val10 (a.take k) + val10 (b.take k)
  bound : (k ≤ a.length ∨ k ≤ b.length) ∨ (k = max a.length b.length + 1 ∧ cr = 0 ∧ 10 ^ (k - 1) ≤ val10 a + val10 b)
theorem PInv.start (a b : List Nat) : PInv a b 0 0 [] := ⟨rfl, small10_nil, by omega, by simp [val10], .inl (.inl (by omega))⟩
theorem PInv.step {a b : List Nat} {k cr : Nat} {l : List Nat} (h : PInv a b k cr l) (ha : Small10 a) (hb : Small10 b) (hgo : (k < a.length ∨ k < b.length) ∨ 0 < cr) :
    PInv a b (k + 1) ((cr + a.getD k 0 + b.getD k 0) / 10) (l ++ [(cr + a.getD k 0 + b.getD k 0) % 10]) := by
  have h1 := ha.get k
  have h2 := hb.get k
  have ta := take_gd a k
  have tb := take_gd b k
  have hc := h.cr1
  refine ⟨by rw [List.length_append, h.len]; rfl, h.small.append (Small10.mk (Nat.mod_lt _ (by decide)) small10_nil), by omega, ?_, ?_⟩
  · rw [val10_snoc, h.len, ta, tb, Nat.pow_succ]
    have he := h.eq
    generalize a.getD k 0 = x at *
    generalize b.getD k 0 = y at *
    have hdm := Nat.div_add_mod (cr + x + y) 10
    generalize (cr + x + y) / 10 = q at *
    generalize (cr + x + y) % 10 = r at *
    generalize 10 ^ k = P at *
    have e1 : (cr + x + y) * P = (10 * q + r) * P := by rw [hdm]
    rw [Nat.add_mul, Nat.add_mul, Nat.add_mul] at e1
    have e2 : q * (P * 10) = 10 * q * P := by rw [Nat.mul_comm P 10, ← Nat.mul_assoc, Nat.mul_comm q 10]
    omega
  · by_cases hk : k < a.length ∨ k < b.length
    · exact .inl (by omega)
    · right
      have hcr : cr = 1 := by omega
      have e0 : a.getD k 0 = 0 := by rw [List.getD_eq_getElem?_getD, List.getElem?_eq_none (by omega)]; rfl
      have e1 : b.getD k 0 = 0 := by rw [List.getD_eq_getElem?_getD, List.getElem?_eq_none (by omega)]; rfl
      have hkm : k = max a.length b.length := by
        have := h.bound
        omega
      refine ⟨by omega, by rw [e0, e1, hcr], ?_⟩
      have he := h.eq
      rw [List.take_of_length_le (by omega), List.take_of_length_le (by omega), hcr] at he
      simp only [Nat.add_sub_cancel]
      omega
theorem PInv.done {a b : List Nat} {k : Nat} {l : List Nat} (h : PInv a b k 0 l) (ha : Norm10 a) (hb : Norm10 b) (h1 : a.length ≤ k) (h2 : b.length ≤ k) : Norm10 l ∧ val10 l = val10 a + val10 b := by
  have he := h.eq
  rw [List.take_of_length_le h1, List.take_of_length_le h2] at he
  have hv : val10 l = val10 a + val10 b := by omega
  refine ⟨?_, hv⟩
  by_cases hl : l = []
  · subst hl; exact norm10_nil
  · refine norm10_of_ge h.small hl ?_
    have hk : 0 < k := by rw [← h.len]; exact List.length_pos_iff.2 hl
    rw [hv, h.len]
    rcases h.bound with hb' | ⟨_, _, hb'⟩
    · rcases hb' with e | e
      · have ek : a.length = k := by omega
        have := ha.val_ge (by rintro rfl; simp at ek; omega)
        rw [ek] at this
        omega
      · have ek : b.length = k := by omega
        have := hb.val_ge (by rintro rfl; simp at ek; omega)
        rw [ek] at this
        omega
    · exact hb'
/-- What holds of a difference's first digits. -/
structure MInv (a b : List Nat) (k br : Nat) (l : List Nat) : Prop where
  len : l.length = k
  small : Small10 l
  br1 : br ≤ 1
  eq : val10 l + val10 (b.take k) = val10 (a.take k) + br * 10 ^ k
theorem MInv.start (a b : List Nat) : MInv a b 0 0 [] := ⟨rfl, small10_nil, by omega, by simp [val10]⟩
theorem MInv.step {a b : List Nat} {k br : Nat} {l : List Nat} (h : MInv a b k br l) (d br' : Nat) (hd : d < 10) (hb' : br' ≤ 1) (he' : (d : Int) = a.getD k 0 - br - b.getD k 0 + 10 * br') : MInv a b (k + 1) br' (l ++ [d]) := by
  have ta := take_gd a k
  have tb := take_gd b k
  refine ⟨by rw [List.length_append, h.len]; rfl, h.small.append (Small10.mk hd small10_nil), hb', ?_⟩
  rw [val10_snoc, h.len, ta, tb, Nat.pow_succ]
  have he := h.eq
  generalize a.getD k 0 = x at *
  generalize b.getD k 0 = y at *
  generalize 10 ^ k = P at *
  have e1 : d + br + y = x + 10 * br' := by omega
  have e2 : (d + br + y) * P = (x + 10 * br') * P := by rw [e1]
  rw [Nat.add_mul, Nat.add_mul, Nat.add_mul] at e2
  have e3 : br' * (P * 10) = 10 * br' * P := by rw [Nat.mul_comm P 10, ← Nat.mul_assoc, Nat.mul_comm br' 10]
  omega
theorem MInv.done {a b : List Nat} {br : Nat} {l : List Nat} (h : MInv a b a.length br l) (hab : b.length ≤ a.length) (hle : val10 b ≤ val10 a) : val10 l = val10 a - val10 b := by
  have he := h.eq
  rw [List.take_of_length_le (Nat.le_refl _), List.take_of_length_le hab] at he
  have h1 := val10_lt h.small
  rw [h.len] at h1
  have h2 := h.br1
  rcases Nat.eq_zero_or_pos br with e | e
  · subst e; omega
  · have : br = 1 := by omega
    subst this
    omega
def GivesD (x : Nat) (w : World) (e : Ending) (w' : World) : Prop := ∃ A n c, e = .returned (.slice A n c) ∧ IsD w' A n c x ∧ Below w.heap.size w w' ∧ ∀ ad, A = some ad → w.heap.size ≤ ad.block
set_option maxRecDepth 100000 in
set_option maxHeartbeats 4000000 in
theorem rplus_any (A B : Option Addr) (n c m d x y : Nat) (w : World) (hx : IsD w A n c x) (hy : IsD w B m d y) (hn : n ≤ 1000) (hm : m ≤ 1000) :
    Calls Tryz.prog 164 #[.slice A n c, .slice B m d] w (GivesD (x + y) w) := by
  obtain ⟨i0, hi, hz0, hz1, hz2⟩ := info_parts intInfo
  obtain ⟨a, ha, na, va, _⟩ := hx
  obtain ⟨b, hb, nb, vb, _⟩ := hy
  have HA := Lib.hid ha
  have HBB := Lib.hid hb
  have hal := Lib.hid ha.len
  have hbl := Lib.hid hb.len
  have HV : Hid (val10 a + val10 b = x + y) := Lib.hid (by rw [va, vb])
  clear ha hb va vb
  go_enter Tryz.func164, Tryz.ntmps164
  go_wp2
  go_loopw [5, 6, 7] (fun v cv' i wr => ∃ (k cr : Nat) (V : Option Addr) (cv : Nat) (r : List Nat), v = .slice V k cv ∧ cv' = .int .i64 (cr : Int) ∧ i = .int .i64 (k : Int) ∧ wr.ownsRow w.heap.size 3 1 (.slice V k cv) k (ints r) ∧ Below w.heap.size w wr ∧ Hid (PInv a b k cr r) ∧ cr ≤ 1 ∧ k ≤ 1001)
    (fun _ _ i _ => 1002 - (intOf i).toNat)
  case atStart => exact ⟨0, 0, none, 0, [], rfl, rfl, rfl, World.ownsRow_nil _ _ _ _, Below.refl _ _, PInv.start a b, by omega, by omega⟩
  case round =>
    obtain ⟨k, cr, V, cv, r, rfl, rfl, rfl, hown, hB, hI, hcr, hk⟩ := hrel
    have hst := fun h => Lib.hid (hI.out.step na.1 nb.1 h)
    have hga := na.1.get k
    have hgb := nb.1.get k
    have hk2 : ∀ _ : Hid (PInv a b (k + 1) ((cr + a.getD k 0 + b.getD k 0) / 10) (r ++ [(cr + a.getD k 0 + b.getD k 0) % 10])), k + 1 ≤ 1001 := fun h => by
      have := h.out.bound
      have h1 := hal.out
      have h2 := hbl.out
      omega
    by_cases h1 : k < n
    · by_cases h2 : k < m
      · obtain ⟨ad, hA, hbl1, hc1⟩ := HA.out.cell k h1
        subst hA
        have g1 : wr.cell? (ad.add k) = some (.int .i64 ((a.getD k 0 : Nat) : Int)) := (hB.cell (by rw [block_of_add]; exact hbl1)).trans hc1
        clear hc1 hbl1
        obtain ⟨ad', hA', hbl2, hc2⟩ := HBB.out.cell k h2
        subst hA'
        have g2 : wr.cell? (ad'.add k) = some (.int .i64 ((b.getD k 0 : Nat) : Int)) := (hB.cell (by rw [block_of_add]; exact hbl2)).trans hc2
        clear hc2 hbl2
        have hst' := hst (.inl (.inl (by have := hal.out; omega)))
        have hk' := hk2 hst'
        clear hst hk2
        generalize a.getD k 0 = x1 at *
        generalize b.getD k 0 = y1 at *
        obtain ⟨N, hN⟩ : ∃ N, N = cr + x1 + y1 := ⟨_, rfl⟩
        rw [← hN] at hst'
        have hN1 : ((cr : Int) + (x1 : Int) + (y1 : Int)) = (N : Int) := by omega
        have hN2 : N ≤ 19 := by omega
        have HN := Lib.hid hN
        clear hN
        have hm10 := Lib.hid (show ((N : Int) % 10).toNat = N % 10 by omega)
        have hd10 := Lib.hid (show (N : Int) / 10 = ((N / 10 : Nat) : Int) by omega)
        go_wp2_with (at_builtin; refine wpList_append_own _ rfl (.tmp 46) (.tmp 49) 58 rfl w.heap.size 3 i0 (.int .i64 0) 1 8 Tryz.underlying58 hi hz0 hz1 hz2 rfl (by decide) (.slice V k cv) k (ints r) rfl (hown.alloc _) ⟨wr.heap.size, 0, none⟩ 1 1 [.int .i64 ((N : Int) % 10)] rfl rfl (cell_one_new _ _ _) (by simp [Value.oneCell']) (by unfold maxLen; omega) (by omega) (by have := hB.size; simp; omega) ?_; intro v' w3 hown3 hgrow3 _; obtain ⟨V3, c3, rfl⟩ := own_slice hown3)
        go_roundw
        case rel => exact ⟨k + 1, N / 10, V3, c3, r ++ [N % 10], rfl, by rw [hd10.out], by go_num, by rw [← hm10.out, ← ints_snoc _ _ (by omega)]; exact hown3, (hB.alloc hB.size _).grown hgrow3 (by have := hB.size; simp; omega) (own_ge hown), hst', by omega, hk'⟩
        case measure => simp [intOf]; omega
      · obtain ⟨ad, hA, hbl1, hc1⟩ := HA.out.cell k h1
        subst hA
        have g1 : wr.cell? (ad.add k) = some (.int .i64 ((a.getD k 0 : Nat) : Int)) := (hB.cell (by rw [block_of_add]; exact hbl1)).trans hc1
        clear hc1 hbl1
        have e1 : b.getD k 0 = 0 := by rw [List.getD_eq_getElem?_getD, List.getElem?_eq_none (by have := hbl.out; omega)]; rfl
        have hst' := hst (.inl (.inl (by have := hal.out; omega)))
        have hk' := hk2 hst'
        clear hst hk2
        rw [e1] at hst' hgb
        clear e1
        generalize a.getD k 0 = x1 at *
        obtain ⟨N, hN⟩ : ∃ N, N = cr + x1 + 0 := ⟨_, rfl⟩
        rw [← hN] at hst'
        have hN1 : ((cr : Int) + (x1 : Int)) = (N : Int) := by omega
        have hN2 : N ≤ 19 := by omega
        have HN := Lib.hid hN
        clear hN
        have hm10 := Lib.hid (show ((N : Int) % 10).toNat = N % 10 by omega)
        have hd10 := Lib.hid (show (N : Int) / 10 = ((N / 10 : Nat) : Int) by omega)
        go_wp2_with (at_builtin; refine wpList_append_own _ rfl (.tmp 46) (.tmp 49) 58 rfl w.heap.size 3 i0 (.int .i64 0) 1 8 Tryz.underlying58 hi hz0 hz1 hz2 rfl (by decide) (.slice V k cv) k (ints r) rfl (hown.alloc _) ⟨wr.heap.size, 0, none⟩ 1 1 [.int .i64 ((N : Int) % 10)] rfl rfl (cell_one_new _ _ _) (by simp [Value.oneCell']) (by unfold maxLen; omega) (by omega) (by have := hB.size; simp; omega) ?_; intro v' w3 hown3 hgrow3 _; obtain ⟨V3, c3, rfl⟩ := own_slice hown3)
        go_roundw
        case rel => exact ⟨k + 1, N / 10, V3, c3, r ++ [N % 10], rfl, by rw [hd10.out], by go_num, by rw [← hm10.out, ← ints_snoc _ _ (by omega)]; exact hown3, (hB.alloc hB.size _).grown hgrow3 (by have := hB.size; simp; omega) (own_ge hown), hst', by omega, hk'⟩
        case measure => simp [intOf]; omega
    · by_cases h2 : k < m
      · have e0 : a.getD k 0 = 0 := by rw [List.getD_eq_getElem?_getD, List.getElem?_eq_none (by have := hal.out; omega)]; rfl
        obtain ⟨ad', hA', hbl2, hc2⟩ := HBB.out.cell k h2
        subst hA'
        have g2 : wr.cell? (ad'.add k) = some (.int .i64 ((b.getD k 0 : Nat) : Int)) := (hB.cell (by rw [block_of_add]; exact hbl2)).trans hc2
        clear hc2 hbl2
        have hst' := hst (.inl (.inr (by have := hbl.out; omega)))
        have hk' := hk2 hst'
        clear hst hk2
        rw [e0] at hst' hga
        clear e0
        generalize b.getD k 0 = y1 at *
        obtain ⟨N, hN⟩ : ∃ N, N = cr + 0 + y1 := ⟨_, rfl⟩
        rw [← hN] at hst'
        have hN1 : ((cr : Int) + (y1 : Int)) = (N : Int) := by omega
        have hN2 : N ≤ 19 := by omega
        have HN := Lib.hid hN
        clear hN
        have hm10 := Lib.hid (show ((N : Int) % 10).toNat = N % 10 by omega)
        have hd10 := Lib.hid (show (N : Int) / 10 = ((N / 10 : Nat) : Int) by omega)
        go_wp2_with (at_builtin; refine wpList_append_own _ rfl (.tmp 46) (.tmp 49) 58 rfl w.heap.size 3 i0 (.int .i64 0) 1 8 Tryz.underlying58 hi hz0 hz1 hz2 rfl (by decide) (.slice V k cv) k (ints r) rfl (hown.alloc _) ⟨wr.heap.size, 0, none⟩ 1 1 [.int .i64 ((N : Int) % 10)] rfl rfl (cell_one_new _ _ _) (by simp [Value.oneCell']) (by unfold maxLen; omega) (by omega) (by have := hB.size; simp; omega) ?_; intro v' w3 hown3 hgrow3 _; obtain ⟨V3, c3, rfl⟩ := own_slice hown3)
        go_roundw
        case rel => exact ⟨k + 1, N / 10, V3, c3, r ++ [N % 10], rfl, by rw [hd10.out], by go_num, by rw [← hm10.out, ← ints_snoc _ _ (by omega)]; exact hown3, (hB.alloc hB.size _).grown hgrow3 (by have := hB.size; simp; omega) (own_ge hown), hst', by omega, hk'⟩
        case measure => simp [intOf]; omega
      · by_cases hc0 : 0 < cr
        · have e0 : a.getD k 0 = 0 := by rw [List.getD_eq_getElem?_getD, List.getElem?_eq_none (by have := hal.out; omega)]; rfl
          have e1 : b.getD k 0 = 0 := by rw [List.getD_eq_getElem?_getD, List.getElem?_eq_none (by have := hbl.out; omega)]; rfl
          have hst' := hst (.inr hc0)
          have hk' := hk2 hst'
          clear hst hk2
          rw [e0] at hst' hga
          clear e0
          rw [e1] at hst' hgb
          clear e1
          obtain ⟨N, hN⟩ : ∃ N, N = cr + 0 + 0 := ⟨_, rfl⟩
          rw [← hN] at hst'
          have hN1 : ((cr : Int)) = (N : Int) := by omega
          have hN2 : N ≤ 19 := by omega
          have HN := Lib.hid hN
          clear hN
          have hcb : decide (0 < (cr : Int)) = true := by simp; omega
          have hc9 : decide (0 < cr) = true := by simp; omega
          have hm10 := Lib.hid (show ((N : Int) % 10).toNat = N % 10 by omega)
          have hd10 := Lib.hid (show (N : Int) / 10 = ((N / 10 : Nat) : Int) by omega)
          go_wp2_with (at_builtin; refine wpList_append_own _ rfl (.tmp 46) (.tmp 49) 58 rfl w.heap.size 3 i0 (.int .i64 0) 1 8 Tryz.underlying58 hi hz0 hz1 hz2 rfl (by decide) (.slice V k cv) k (ints r) rfl (hown.alloc _) ⟨wr.heap.size, 0, none⟩ 1 1 [.int .i64 ((N : Int) % 10)] rfl rfl (cell_one_new _ _ _) (by simp [Value.oneCell']) (by unfold maxLen; omega) (by omega) (by have := hB.size; simp; omega) ?_; intro v' w3 hown3 hgrow3 _; obtain ⟨V3, c3, rfl⟩ := own_slice hown3)
          go_roundw
          case rel => exact ⟨k + 1, N / 10, V3, c3, r ++ [N % 10], rfl, by rw [hd10.out], by go_num, by rw [← hm10.out, ← ints_snoc _ _ (by omega)]; exact hown3, (hB.alloc hB.size _).grown hgrow3 (by have := hB.size; simp; omega) (own_ge hown), hst', by omega, hk'⟩
          case measure => simp [intOf]; omega
        · have hcr0 : cr = 0 := by omega
          subst hcr0
          have hfin := Lib.hid (hI.out.done na nb (by have := hal.out; omega) (by have := hbl.out; omega))
          clear hst hk2 hga hgb
          go_wp2
          go_ret
          exact ⟨V, k, cv, rfl, ⟨r, Reads.of_own hown, hfin.out.1, by rw [hfin.out.2]; exact HV.out, own_le hown⟩, hB, fun ad e => own_ge hown _ (by rw [e]; rfl)⟩
end Go.Proofs.YtngohpgkceedeaaGreatDoor

namespace Go.Proofs.YtngohpgkceedeaaGreatDoor
open Go Go.RowKit Go.Lib

theorem IsD.len_le {w : World} {A B : Option Addr} {n c m d x y : Nat} (hx : IsD w A n c x) (hy : IsD w B m d y) (h : y ≤ x) : m ≤ n := by
  obtain ⟨a, ha, na, va, _⟩ := hx
  obtain ⟨b, hb, nb, vb, _⟩ := hy
  rw [ha.len, hb.len]
  rcases Nat.lt_or_ge a.length b.length with h1 | h1
  · have := na.lt_of_length nb h1; omega
  · exact h1
set_option maxRecDepth 100000 in
set_option maxHeartbeats 4000000 in
theorem rminus_any (A B : Option Addr) (n c m d x y : Nat) (w : World) (hx : IsD w A n c x) (hy : IsD w B m d y) (hn : n ≤ 1000) (hyx : y ≤ x) :
    Calls Tryz.prog 165 #[.slice A n c, .slice B m d] w (GivesD (x - y) w) := by
  obtain ⟨i0, hi, hz0, hz1, hz2⟩ := info_parts intInfo
  have hmn := Lib.hid (hx.len_le hy hyx)
  obtain ⟨a, ha, na, va, _⟩ := hx
  obtain ⟨b, hb, nb, vb, _⟩ := hy
  have HA := Lib.hid ha
  have HBB := Lib.hid hb
  have hal := Lib.hid ha.len
  have hbl := Lib.hid hb.len
  have HLE : Hid (val10 b ≤ val10 a) := Lib.hid (by rw [va, vb]; exact hyx)
  have HV : Hid (val10 a - val10 b = x - y) := Lib.hid (by rw [va, vb])
  clear ha hb va vb hyx
  go_enter Tryz.func165, Tryz.ntmps165
  go_wp2
  go_loopw [5, 6, 7] (fun v cv' i wr => ∃ (k br : Nat) (V : Option Addr) (cv : Nat) (r : List Nat), v = .slice V k cv ∧ cv' = .int .i64 (br : Int) ∧ i = .int .i64 (k : Int) ∧ wr.ownsRow w.heap.size 3 1 (.slice V k cv) k (ints r) ∧ Below w.heap.size w wr ∧ Hid (MInv a b k br r) ∧ br ≤ 1 ∧ k ≤ n)
    (fun _ _ i _ => n - (intOf i).toNat)
  case atStart => exact ⟨0, 0, none, 0, [], rfl, rfl, rfl, World.ownsRow_nil _ _ _ _, Below.refl _ _, MInv.start a b, by omega, by omega⟩
  case round =>
    obtain ⟨k, br, V, cv, r, rfl, rfl, rfl, hown, hB, hI, hbr, hk⟩ := hrel
    have hga := na.1.get k
    have hgb := nb.1.get k
    by_cases h1 : k < n
    · obtain ⟨ad, hA, hbl1, hc1⟩ := HA.out.cell k h1
      subst hA
      have g1 : wr.cell? (ad.add k) = some (.int .i64 ((a.getD k 0 : Nat) : Int)) := (hB.cell (by rw [block_of_add]; exact hbl1)).trans hc1
      clear hc1 hbl1
      have hst := fun d br' => hI.out.step d br'
      by_cases h2 : k < m
      · obtain ⟨ad', hA', hbl2, hc2⟩ := HBB.out.cell k h2
        subst hA'
        have g2 : wr.cell? (ad'.add k) = some (.int .i64 ((b.getD k 0 : Nat) : Int)) := (hB.cell (by rw [block_of_add]; exact hbl2)).trans hc2
        clear hc2 hbl2
        generalize a.getD k 0 = x1 at *
        generalize b.getD k 0 = y1 at *
        by_cases hng : (x1 : Int) - br - y1 < 0
        · obtain ⟨D, hD⟩ : ∃ D : Int, D = ((x1 : Int) - br - y1 + 10) := ⟨_, rfl⟩
          have hst' := Lib.hid (hst D.toNat 1 (by omega) (by omega) (by omega))
          clear hst
          have hD0 : 0 ≤ D := by omega
          have hD9 : D < 10 := by omega
          have hDe : (x1 : Int) - br - y1 + 10 = D := hD.symm
          clear hD
          go_wp2_with (at_builtin; refine wpList_append_own _ rfl (.tmp 35) (.tmp 37) 58 rfl w.heap.size 3 i0 (.int .i64 0) 1 8 Tryz.underlying58 hi hz0 hz1 hz2 rfl (by decide) (.slice V k cv) k (ints r) rfl (hown.alloc _) ⟨wr.heap.size, 0, none⟩ 1 1 [.int .i64 (D)] rfl rfl (cell_one_new _ _ _) (by simp [Value.oneCell']) (by unfold maxLen; omega) (by omega) (by have := hB.size; simp; omega) ?_; intro v' w3 hown3 hgrow3 _; obtain ⟨V3, c3, rfl⟩ := own_slice hown3)
          go_roundw
          case rel => exact ⟨k + 1, 1, V3, c3, r ++ [D.toNat], rfl, rfl, by go_num, by rw [← ints_snoc _ _ hD0]; exact hown3, (hB.alloc hB.size _).grown hgrow3 (by have := hB.size; simp; omega) (own_ge hown), hst', by omega, by omega⟩
          case measure => simp [intOf]; omega
        · obtain ⟨D, hD⟩ : ∃ D : Int, D = ((x1 : Int) - br - y1) := ⟨_, rfl⟩
          have hst' := Lib.hid (hst D.toNat 0 (by omega) (by omega) (by omega))
          clear hst
          have hD0 : 0 ≤ D := by omega
          have hD9 : D < 10 := by omega
          have hDe : (x1 : Int) - br - y1 = D := hD.symm
          clear hD
          go_wp2_with (at_builtin; refine wpList_append_own _ rfl (.tmp 35) (.tmp 37) 58 rfl w.heap.size 3 i0 (.int .i64 0) 1 8 Tryz.underlying58 hi hz0 hz1 hz2 rfl (by decide) (.slice V k cv) k (ints r) rfl (hown.alloc _) ⟨wr.heap.size, 0, none⟩ 1 1 [.int .i64 (D)] rfl rfl (cell_one_new _ _ _) (by simp [Value.oneCell']) (by unfold maxLen; omega) (by omega) (by have := hB.size; simp; omega) ?_; intro v' w3 hown3 hgrow3 _; obtain ⟨V3, c3, rfl⟩ := own_slice hown3)
          go_roundw
          case rel => exact ⟨k + 1, 0, V3, c3, r ++ [D.toNat], rfl, rfl, by go_num, by rw [← ints_snoc _ _ hD0]; exact hown3, (hB.alloc hB.size _).grown hgrow3 (by have := hB.size; simp; omega) (own_ge hown), hst', by omega, by omega⟩
          case measure => simp [intOf]; omega
      · have e1 : b.getD k 0 = 0 := by rw [List.getD_eq_getElem?_getD, List.getElem?_eq_none (by have := hbl.out; omega)]; rfl
        rw [e1] at hst hgb
        clear e1
        generalize a.getD k 0 = x1 at *
        by_cases hng : (x1 : Int) - br < 0
        · obtain ⟨D, hD⟩ : ∃ D : Int, D = ((x1 : Int) - br + 10) := ⟨_, rfl⟩
          have hst' := Lib.hid (hst D.toNat 1 (by omega) (by omega) (by omega))
          clear hst
          have hD0 : 0 ≤ D := by omega
          have hD9 : D < 10 := by omega
          have hDe : (x1 : Int) - br + 10 = D := hD.symm
          clear hD
          go_wp2_with (at_builtin; refine wpList_append_own _ rfl (.tmp 35) (.tmp 37) 58 rfl w.heap.size 3 i0 (.int .i64 0) 1 8 Tryz.underlying58 hi hz0 hz1 hz2 rfl (by decide) (.slice V k cv) k (ints r) rfl (hown.alloc _) ⟨wr.heap.size, 0, none⟩ 1 1 [.int .i64 (D)] rfl rfl (cell_one_new _ _ _) (by simp [Value.oneCell']) (by unfold maxLen; omega) (by omega) (by have := hB.size; simp; omega) ?_; intro v' w3 hown3 hgrow3 _; obtain ⟨V3, c3, rfl⟩ := own_slice hown3)
          go_roundw
          case rel => exact ⟨k + 1, 1, V3, c3, r ++ [D.toNat], rfl, rfl, by go_num, by rw [← ints_snoc _ _ hD0]; exact hown3, (hB.alloc hB.size _).grown hgrow3 (by have := hB.size; simp; omega) (own_ge hown), hst', by omega, by omega⟩
          case measure => simp [intOf]; omega
        · obtain ⟨D, hD⟩ : ∃ D : Int, D = ((x1 : Int) - br) := ⟨_, rfl⟩
          have hst' := Lib.hid (hst D.toNat 0 (by omega) (by omega) (by omega))
          clear hst
          have hD0 : 0 ≤ D := by omega
          have hD9 : D < 10 := by omega
          have hDe : (x1 : Int) - br = D := hD.symm
          clear hD
          go_wp2_with (at_builtin; refine wpList_append_own _ rfl (.tmp 35) (.tmp 37) 58 rfl w.heap.size 3 i0 (.int .i64 0) 1 8 Tryz.underlying58 hi hz0 hz1 hz2 rfl (by decide) (.slice V k cv) k (ints r) rfl (hown.alloc _) ⟨wr.heap.size, 0, none⟩ 1 1 [.int .i64 (D)] rfl rfl (cell_one_new _ _ _) (by simp [Value.oneCell']) (by unfold maxLen; omega) (by omega) (by have := hB.size; simp; omega) ?_; intro v' w3 hown3 hgrow3 _; obtain ⟨V3, c3, rfl⟩ := own_slice hown3)
          go_roundw
          case rel => exact ⟨k + 1, 0, V3, c3, r ++ [D.toNat], rfl, rfl, by go_num, by rw [← ints_snoc _ _ hD0]; exact hown3, (hB.alloc hB.size _).grown hgrow3 (by have := hB.size; simp; omega) (own_ge hown), hst', by omega, by omega⟩
          case measure => simp [intOf]; omega
    · obtain rfl : k = n := by omega
      have hI2 := hI.out
      rw [hal.out] at hI2
      have hfin := Lib.hid (hI2.done (by have := hal.out; have := hbl.out; have := hmn.out; omega) HLE.out)
      have hsm := hI2.small
      have hnum : NumV wr V k r := Reads.of_own hown
      have hcap := own_le hown
      clear hga hgb hI2
      go_wp2_with (go_at_call 195; refine (trim_any V k cv r _ hnum (by omega) hcap hsm).mono ?_; rintro e w2 ⟨⟨k', rfl, hk', hN', hnorm, hval⟩, rfl⟩)
      go_ret
      exact ⟨V, k', cv, rfl, ⟨r.take k', hN', hnorm, by rw [hval, hfin.out]; exact HV.out, by omega⟩, hB, fun ad e => own_ge hown _ (by rw [e]; rfl)⟩
end Go.Proofs.YtngohpgkceedeaaGreatDoor
