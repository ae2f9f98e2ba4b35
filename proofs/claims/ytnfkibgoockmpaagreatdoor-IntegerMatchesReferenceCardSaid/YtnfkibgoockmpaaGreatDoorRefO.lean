/-
  The reference implementation: order.
-/
import Derived.Test.YtnfkibgoockmpaaGreatDoorRefD
namespace Go.Proofs.YtnfkibgoockmpaaGreatDoor
open Go Go.RowKit Go.Lib

theorem Norm10.val_ge {l : List Nat} (h : Norm10 l) (hn : l ≠ []) : 10 ^ (l.length - 1) ≤ val10 l := by
  have h1 := txt10_norm h hn
  have h2 : l.length = (decDigits (val10 l)).length := by rw [← h1]; simp [txt10]
  rcases Nat.lt_or_ge (val10 l) (10 ^ (l.length - 1)) with h3 | h3
  · exfalso
    have h0 : 0 < l.length := List.length_pos_iff.2 hn
    rcases Nat.eq_zero_or_pos (l.length - 1) with e | e
    · rw [e] at h3
      have := h.val_pos hn
      simp at h3
      omega
    · have := (dec_lt _ _ e).2 h3
      omega
  · exact h3
theorem Norm10.lt_of_length {l m : List Nat} (h : Norm10 l) (hm : Norm10 m) (hlt : l.length < m.length) : val10 l < val10 m := by
  have h1 := val10_lt h.1
  have h2 := hm.val_ge (by rintro rfl; simp at hlt)
  have h3 : 10 ^ l.length ≤ 10 ^ (m.length - 1) := Nat.pow_le_pow_right (by decide) (by omega)
  omega
theorem val10_lt_of_get {l m : List Nat} (h : Small10 l) (hlen : l.length = m.length) (i : Nat) (hi : i < l.length) (hlt : l.getD i 0 < m.getD i 0)
    (heq : ∀ j, i < j → j < l.length → l.getD j 0 = m.getD j 0) : val10 l < val10 m := by
  induction l generalizing m i with
  | nil => simp at hi
  | cons d l ih =>
    cases m with
    | nil => simp at hlen
    | cons x m =>
      simp only [List.length_cons, Nat.add_right_cancel_iff] at hlen
      simp only [val10]
      cases i with
      | zero =>
        simp only [List.getD_cons_zero] at hlt
        have e : l = m := by
          apply List.ext_getElem hlen
          intro j h1 h2
          have := heq (j + 1) (by omega) (by simp; omega)
          simp only [List.getD_cons_succ] at this
          rw [List.getD_eq_getElem?_getD, List.getD_eq_getElem?_getD, List.getElem?_eq_getElem h1, List.getElem?_eq_getElem h2] at this
          simpa using this
        rw [e]; omega
      | succ i =>
        simp only [List.getD_cons_succ] at hlt
        have h1 := ih h.cons.2 hlen i (by simpa using hi) hlt (fun j a b => by
          have := heq (j + 1) (by omega) (by simp; omega)
          simpa only [List.getD_cons_succ] using this)
        have h2 := h.cons.1
        omega
theorem cmp10_length {l k : List Nat} (nl : Norm10 l) (nk : Norm10 k) (h : l.length ≠ k.length) : cmpZ l.length k.length = cmpZ (val10 l) (val10 k) := by
  rcases Nat.lt_or_gt_of_ne h with h | h
  · have := nl.lt_of_length nk h
    unfold cmpZ
    rw [if_pos (by omega), if_pos (by omega)]
  · have := nk.lt_of_length nl h
    unfold cmpZ
    rw [if_neg (by omega), if_pos (by omega), if_neg (by omega), if_pos (by omega)]
theorem cmp10_get {l k : List Nat} (sl : Small10 l) (sk : Small10 k) (h : l.length = k.length) (i : Nat) (hi : i < l.length) (hne : l.getD i 0 ≠ k.getD i 0)
    (heq : ∀ j, i < j → j < l.length → l.getD j 0 = k.getD j 0) : cmpZ (val10 l) (val10 k) = if l.getD i 0 < k.getD i 0 then -1 else 1 := by
  by_cases hlt : l.getD i 0 < k.getD i 0
  · have := val10_lt_of_get sl h i hi hlt heq
    rw [if_pos hlt]
    unfold cmpZ
    rw [if_pos (by omega)]
  · have := val10_lt_of_get sk h.symm i (by omega) (by omega) (fun j a b => (heq j a (by omega)).symm)
    rw [if_neg hlt]
    unfold cmpZ
    rw [if_neg (by omega), if_pos (by omega)]
def OrdOk (c : Int) (w : World) (e : Ending) (w' : World) : Prop := e = .returned (.int .i64 c) ∧ Below w.heap.size w w'
set_option maxHeartbeats 1000000 in
theorem rorder_len (A B : Option Addr) (n c m d : Nat) (w : World) (h : n ≠ m) (_hn : n ≤ 1000) (_hm : m ≤ 1000) :
    Calls Tryz.prog 55 #[.slice A n c, .slice B m d] w (OrdOk (cmpZ n m) w) := by
  have h1 : ((n : Int) == (m : Int)) = false := by rw [beq_eq_false_iff_ne]; omega
  rcases Nat.lt_or_gt_of_ne h with h | h
  · have hc : cmpZ (n : Int) (m : Int) = -1 := by unfold cmpZ; rw [if_pos (by omega)]
    rw [hc]
    clear hc
    go_enter Tryz.func55, Tryz.ntmps55
    go_wp2
    go_ret
    exact ⟨rfl, Below.refl _ _⟩
  · have hc : cmpZ (n : Int) (m : Int) = 1 := by unfold cmpZ; rw [if_neg (by omega), if_pos (by omega)]
    rw [hc]
    clear hc
    go_enter Tryz.func55, Tryz.ntmps55
    go_wp2
    go_ret
    exact ⟨rfl, Below.refl _ _⟩
set_option maxRecDepth 100000 in
set_option maxHeartbeats 2000000 in
theorem rorder_same (A B : Option Addr) (n c d : Nat) (l k : List Nat) (w : World) (hl : NumV w A n l) (hk : NumV w B n k) (sl : Small10 l) (sk : Small10 k) (hn : n ≤ 1000) :
    Calls Tryz.prog 55 #[.slice A n c, .slice B n d] w (OrdOk (cmpZ (val10 l) (val10 k)) w) := by
  have HL := Lib.hid hl
  have HK := Lib.hid hk
  have hll := Lib.hid hl.len
  have hkl := Lib.hid hk.len
  have hmx : Tryz.prog.follows .mixedOrders = true := by kernel_rfl
  obtain ⟨R, hR⟩ : ∃ R : Int, R = cmpZ (val10 l) (val10 k) := ⟨_, rfl⟩
  rw [← hR]
  have HR := Lib.hid hR
  clear hl hk hR
  go_enter Tryz.func55, Tryz.ntmps55
  go_wp2
  go_loopw [5] (fun i wr => ∃ (x : Int) (m : Nat), Hid (x + 1 = m) ∧ m ≤ n ∧ -1 ≤ x ∧ x < n ∧ i = .int .i64 x ∧ Below w.heap.size w wr ∧ Hid (∀ j, m ≤ j → j < n → l.getD j 0 = k.getD j 0)) (fun i _ => (intOf i + 1).toNat)
  case atStart => exact ⟨(n : Int) - 1, n, by show _ = _; omega, Nat.le_refl _, by omega, by omega, rfl, Below.refl _ _, fun j h1 h2 => by omega⟩
  case round =>
    obtain ⟨x, m, hxm, hmn, hx1, hxn, rfl, hB, heq⟩ := hrel
    by_cases hx : 0 ≤ x
    · obtain ⟨q, rfl⟩ : ∃ q : Nat, x = (q : Int) := ⟨x.toNat, by omega⟩
      obtain rfl : m = q + 1 := by have := hxm.out; omega
      have hqn : q < n := by omega
      obtain ⟨ad, hA, hbl1, hc1⟩ := HL.out.cell q hqn
      obtain ⟨ad', hB', hbl2, hc2⟩ := HK.out.cell q hqn
      subst hA hB'
      have g1 : wr.cell? (ad.add q) = some (.int .i64 ((l.getD q 0 : Nat) : Int)) := (hB.cell (by rw [block_of_add]; exact hbl1)).trans hc1
      have g2 : wr.cell? (ad'.add q) = some (.int .i64 ((k.getD q 0 : Nat) : Int)) := (hB.cell (by rw [block_of_add]; exact hbl2)).trans hc2
      clear hc1 hc2 hbl1 hbl2 hx
      by_cases he : l.getD q 0 = k.getD q 0
      · have heq' : Hid (∀ j, q ≤ j → j < n → l.getD j 0 = k.getD j 0) := Lib.hid (fun j h1 h2 => by
          rcases Nat.eq_or_lt_of_le h1 with e | e
          · rw [← e]; exact he
          · exact heq.out j e h2)
        rw [← he] at g2
        generalize l.getD q 0 = e1 at g1 g2
        clear he
        go_wp2
        go_quiet (fail)
        go_wp2
        go_roundw
        case rel => exact ⟨(q : Int) - 1, q, by show _ = _; omega, by omega, by omega, by omega, rfl, below_drewN hB _, heq'⟩
        case measure => simp [intOf]
      · have hcmp := Lib.hid (cmp10_get sl sk (by rw [← hll.out, ← hkl.out]) q (by rw [← hll.out]; exact hqn) he (fun j h1 h2 => heq.out j h1 (by rw [hll.out]; exact h2)))
        rw [← HR.out] at hcmp
        generalize l.getD q 0 = e1 at *
        generalize k.getD q 0 = e2 at *
        have hb : ((e1 : Int) == (e2 : Int)) = false := by rw [beq_eq_false_iff_ne]; omega
        by_cases hlt : e1 < e2
        · have hcc : R = -1 := by rw [hcmp.out, if_pos hlt]
          subst hcc
          clear he
          go_wp2
          go_quiet (fail)
          go_wp2
          go_quiet (fail)
          go_wp2
          go_ret
          exact ⟨rfl, below_drewN (below_drewN hB _) _⟩
        · have hcc : R = 1 := by rw [hcmp.out, if_neg hlt]
          subst hcc
          clear he
          go_wp2
          go_quiet (fail)
          go_wp2
          go_quiet (fail)
          go_wp2
          go_ret
          exact ⟨rfl, below_drewN (below_drewN hB _) _⟩
    · have hx' : x < 0 := by omega
      obtain rfl : m = 0 := by have := hxm.out; omega
      have hlk : l = k := eq_of_get (by rw [← hll.out, ← hkl.out]) (fun j hj => heq.out j (by omega) (by rw [hll.out]; exact hj))
      have hcc : R = 0 := by rw [HR.out, hlk]; unfold cmpZ; simp
      subst hcc
      clear hx hlk
      go_wp2
      go_ret
      exact ⟨rfl, hB⟩
theorem rorder_any (A B : Option Addr) (n c m d x y : Nat) (w : World) (hx : IsD w A n c x) (hy : IsD w B m d y) (hn : n ≤ 1000) (hm : m ≤ 1000) :
    Calls Tryz.prog 55 #[.slice A n c, .slice B m d] w (OrdOk (cmpZ x y) w) := by
  obtain ⟨l, hl, nl, vl, _⟩ := hx
  obtain ⟨k, hk, nk, vk, _⟩ := hy
  rw [← vl, ← vk]
  by_cases h : n = m
  · subst h
    exact rorder_same A B n c d l k w hl hk nl.1 nk.1 hn
  · have e := cmp10_length nl nk (by rw [← hl.len, ← hk.len]; exact h)
    rw [← hl.len, ← hk.len] at e
    rw [← e]
    exact rorder_len A B n c m d w h hn hm
end Go.Proofs.YtnfkibgoockmpaaGreatDoor
