/-
  The exported functions, over strings: the greatest common divisor.
-/
import Derived.Test.YtnfkibgoockmpaaGreatDoorStr2
import Derived.Deep.QuietTactic
import Derived.BigQuiet
namespace Go.Proofs.YtnfkibgoockmpaaGreatDoor
open Go Go.RowKit Go.Lib Go.Shelf

theorem IsNum.unique {w : World} {A : Option Addr} {n c d p q : Nat} (h : IsNum w A n c p) (k : IsNum w A n d q) : p = q := by
  obtain ⟨l, h1, h2, rfl, _⟩ := h
  obtain ⟨m, k1, k2, rfl, _⟩ := k
  have hl := h1.len
  have hm := k1.len
  congr 1
  refine List.ext_getElem (by omega) (fun j hj hj' => ?_)
  have hn : 0 < n := by omega
  obtain ⟨ad, e, _, hc⟩ := h1.2 hn
  obtain ⟨ad', e', _, hc'⟩ := k1.2 hn
  rw [e] at e'
  injection e' with e'
  subst e'
  have g1 := hc j _ (ints_get l j hj)
  have g2 := hc' j _ (ints_get m j hj')
  rw [g1] at g2
  injection g2 with g2
  injection g2 with _ g2
  have g3 : l.getD j 0 = m.getD j 0 := by omega
  rw [List.getD_eq_getElem?_getD, List.getD_eq_getElem?_getD, List.getElem?_eq_getElem hj, List.getElem?_eq_getElem hj'] at g3
  exact g3
open Classical in
/-- The number that a slice is. -/
noncomputable def numOf (w : World) (v : Value) : Nat := if h : ∃ q A n c, v = .slice A n c ∧ IsNum w A n c q then h.choose else 0
theorem numOf_eq {w : World} {A : Option Addr} {n c q : Nat} (h : IsNum w A n c q) : numOf w (.slice A n c) = q := by
  have hx : ∃ q A' n' c', Value.slice A n c = .slice A' n' c' ∧ IsNum w A' n' c' q := ⟨q, A, n, c, rfl, h⟩
  unfold numOf
  rw [dif_pos hx]
  obtain ⟨A', n', c', e, h'⟩ := hx.choose_spec
  injection e with e1 e2 e3
  subst e1 e2
  exact h'.unique h
theorem gcd_fits {x y : Int} (hx : Fits x) (hy : Fits y) : Fits ((x.natAbs.gcd y.natAbs : Nat) : Int) := by
  unfold Fits at *
  rw [Int.natAbs_natCast]
  rcases Nat.eq_zero_or_pos x.natAbs with h | h
  · rw [h, Nat.gcd_zero_left]; exact hy
  · exact Nat.lt_of_le_of_lt (Nat.gcd_le_left _ h) hx
set_option maxRecDepth 100000 in
set_option maxHeartbeats 1000000 in
theorem gcd_ok (a b : ByteArray) (x y : Int) (w : World) (ht : Tab w) (ha : a.data.toList = itoa x) (hb : b.data.toList = itoa y) (hx : Fits x) (hy : Fits y) (hsa : Str a) (hsb : Str b) :
    Calls Tryz.prog 20 #[.string a, .string b] w fun e w' => e = .returned (.tuple #[.string ⟨(itoa ((x.natAbs.gcd y.natAbs : Nat) : Int)).toArray⟩, .int .i64 0]) ∧ Below w.heap.size w w' := by
  obtain ⟨lx, ly, _⟩ := mul_lt hx hy
  have LX := Lib.hid lx
  have LY := Lib.hid ly
  clear lx ly
  go_enter Tryz.func20, Tryz.ntmps20
  go_wp2_with (first
    | (go_at_call 38; go_must (refine (both_ok a b x y _ ha hb hx hy hsa hsb).mono ?_; rintro e w1 ⟨u, v, rfl, ⟨A1, n1, k1, rfl, hu⟩, ⟨A2, n2, k2, rfl, hv⟩, hb1⟩; generalize decide (x < 0) = dx at *; generalize decide (y < 0) = dy at *)))
  obtain ⟨m0, m1⟩ := two_new2 w1 #[.bool dx, .slice A1 n1 k1] #[.bool dy, .slice A2 n2 k2] 50
  have hb2 := below2 w1 (.cells #[.bool dx, .slice A1 n1 k1] 50) (.cells #[.bool dy, .slice A2 n2 k2] 50)
  have hu2 := hu.below hb2
  have hv2 := hv.below hb2
  have hB := hb1.trans (hb2.mono hb1.size)
  generalize ((w1.alloc (.cells #[.bool dx, .slice A1 n1 k1] 50)).alloc (.cells #[.bool dy, .slice A2 n2 k2] 50)) = V at *
  obtain ⟨c1, c2, _, _⟩ := two_facts m0
  obtain ⟨c3, c4, _, _⟩ := two_facts m1
  have hmx : Tryz.prog.follows .mixedOrders = true := by kernel_rfl
  go_quiet (fail)
  go_wp2
  go_loopw [9, 10] (fun kv lv wr => ∃ (A : Option Addr) (n c : Nat) (B : Option Addr) (m e p q : Nat), kv = .slice A n c ∧ lv = .slice B m e ∧ IsNum wr A n c p ∧ IsNum wr B m e q ∧ p.gcd q = x.natAbs.gcd y.natAbs ∧ Below w.heap.size w wr ∧ Hid (p < 10000 ^ 250) ∧ Hid (q < 10000 ^ 250))
    (fun _ lv wr => numOf wr lv)
  case atStart => exact ⟨A1, n1, k1, A2, n2, k2, _, _, rfl, rfl, hu2, hv2, rfl, below_drewN hB _, LX, LY⟩
  case round =>
    obtain ⟨A, n, c, B, m, e, p, q, rfl, rfl, hp, hq, hg, hBr, HP, HQ⟩ := hrel
    have hq0 := hq.zero
    by_cases hz : q = 0
    · have hm0 : m = 0 := hq0.2 hz
      subst hm0
      rw [hz, Nat.gcd_zero_right] at hg
      have hF := gcd_fits hx hy
      have hte : tText (sv false p) = itoa ((x.natAbs.gcd y.natAbs : Nat) : Int) ∧ tErr (sv false p) = 0 := by
        have e : sv false p = ((x.natAbs.gcd y.natAbs : Nat) : Int) := by simp [sv, hg]
        rw [e]
        exact ⟨by unfold tText; rw [if_pos hF], by unfold tErr; rw [if_pos hF]⟩
      have HT := Lib.hid hte
      clear hte hF hg hq0 hz
      go_wp2_with (go_at_call 40; go_must (refine (text_any _ false p _ ⟨A, n, c, rfl, hp⟩ HP.out (ht.below hBr)).mono ?_; rintro e w3 ⟨rfl, hb3⟩; rw [HT.out.1, HT.out.2]))
      refine bodyPost_ret (v := .tuple #[.string ⟨(itoa ((x.natAbs.gcd y.natAbs : Nat) : Int)).toArray⟩, .int .i64 0]) ?res rfl ⟨rfl, hBr.trans (hb3.mono hBr.size)⟩
      case res => simp [results, Tryz.f20, go_sem]
    · have hm0 : 0 < m := by
        rcases Nat.eq_zero_or_pos m with h | h
        · exact absurd (hq0.1 h) hz
        · exact h
      have hqp : 0 < q := by omega
      clear hq0
      go_wp2_with (go_at_call 42; go_must (refine (over_any A B n c m e p q _ hp hq HP.out HQ.out hqp).mono ?_; rintro e' w3 ⟨Aq, nq, cq, Ar, nr, cr, rfl, hqq, hrr, hb3⟩))
      go_roundw
      case rel => exact ⟨B, m, e, Ar, nr, cr, q, p % q, rfl, rfl, hq.below hb3, hrr, by rw [← hg, Nat.gcd_comm p q, Nat.gcd_rec q p, Nat.gcd_comm], hBr.trans (hb3.mono hBr.size), HQ, Nat.lt_trans (Nat.mod_lt _ hqp) HQ.out⟩
      case measure => rw [numOf_eq hrr, numOf_eq hq]; exact Nat.mod_lt _ hqp
end Go.Proofs.YtnfkibgoockmpaaGreatDoor
