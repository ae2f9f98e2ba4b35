/-
  The reference implementation: quotients and common divisors.
-/
import Derived.Test.YtngohpgkceedeaaGreatDoorWRefE
namespace Go.Proofs.YtngohpgkceedeaaGreatDoor
open Go Go.RowKit Go.Lib Go.Shelf

theorem lit_oneD (w : World) : IsD (w.alloc (.cells #[.int .i64 1] 3)) (some ⟨w.heap.size, 0, none⟩) 1 1 1 := by
  have hlit := World.ownsRow_lit (base := w.heap.size) (e := 3) (size := 1) w #[.int .i64 1] 1 (Nat.le_refl _) (by unfold maxLen; omega) rfl
  exact ⟨[1], Reads.of_own hlit, ⟨Small10.mk (by decide) small10_nil, by decide⟩, by simp [val10], Nat.le_refl _⟩
theorem next_lt {X Y : Nat} (h : X < 10 ^ 200) : X / Y + 1 < 10 ^ 201 := by
  have := Nat.div_le_self X Y
  rw [show (201 : Nat) = 200 + 1 from rfl, Nat.pow_succ]
  generalize (10 : Nat) ^ 200 = T at *
  omega
set_option maxRecDepth 100000 in
set_option maxHeartbeats 8000000 in
theorem rdiv_core {a b : ByteArray} {x y : Int} (ha : Is a x) (hb : Is b y) (hx : Fits x) (hy : Fits y) (hy0 : y ≠ 0) (w : World) :
    Calls Tryz.prog 118 #[.string a, .string b] w (DivOk (x / y) (x % y) w) := by
  obtain ⟨fq, fr⟩ := div_fits hx hy hy0
  have TQ := Lib.hid (tText_fit fq)
  have EQ := Lib.hid (tErr_fit fq)
  have HY0 : Hid (0 < y.natAbs) := Lib.hid (by omega)
  have LS : Hid (x.natAbs / y.natAbs + 1 < 10 ^ 201) := Lib.hid (next_lt hx)
  have nz : (b.toList == [48]) = false := by rw [hb.eq]; exact S_ne0 hy0
  by_cases hc : 0 ≤ x ∨ x.natAbs % y.natAbs = 0
  · obtain ⟨hq0, hr0⟩ := div_plain x y hy0 hc
    clear hy0
    by_cases hx1 : x < 0 <;> by_cases hy1 : y < 0
    · have hx0 : decide (x < 0) = true := by simp; omega
      have hy0' : decide (y < 0) = true := by simp; omega
      have hzq : Hid (sv false (x.natAbs / y.natAbs) = x / y) := Lib.hid (by have h := hq0; rw [if_pos (by omega)] at h; simpa [sv] using h)
      have hzr : Hid (sv false (x.natAbs % y.natAbs) = x % y) := Lib.hid (by simpa [sv] using hr0)
      have HR0 := Lib.hid (show x.natAbs % y.natAbs = 0 by omega)
      clear hq0 hr0 hc hx1 hy1
      go_enter Tryz.func118, Tryz.ntmps118
      go_wp2_with fail
      refine (rvalid_is ha hx _).mono ?_
      rintro e W ⟨rfl, rfl⟩
      go_wp2_with fail
      refine (rvalid_is hb hy _).mono ?_
      rintro e W ⟨rfl, rfl⟩
      go_wp2_with fail
      refine (rdigits_any ha hx _).mono ?_
      rintro e W ⟨A1, n1, c1, rfl, D1, hb1⟩
      rw [hx0]
      go_wp2_with fail
      refine (rdigits_any hb hy _).mono ?_
      rintro e W ⟨A2, n2, c2, rfl, D2, hb2⟩
      rw [hy0']
      have hB := hb1.trans (hb2.mono hb1.size)
      have D1' := D1.below hb2
      clear D1 hb1 hb2
      clear hx0 hy0'
      have L1 := D1'.le hx
      have L2 := D2.le hy
      go_wp2_with fail
      refine (rdivided_any A1 A2 n1 c1 n2 c2 _ _ _ D1' D2 L1 L2 HY0.out).mono ?_
      rintro e W3 ⟨Aq, nq, cq, Ar, nr, cr, rfl, hq, hr, hb3⟩
      have hB3 := hB.trans (hb3.mono hB.size)
      have Lq : nq ≤ 200 := hq.le (Nat.lt_of_le_of_lt (Nat.div_le_self _ _) hx)
      have Lr : nr ≤ 200 := hr.le (Nat.lt_trans (Nat.mod_lt _ HY0.out) hy)
      obtain rfl : nr = 0 := hr.zero.2 HR0.out
      go_wp2_with fail
      refine (rchecked_any false hzq _ hq (by omega)).mono ?_
      rintro e W4 ⟨rfl, hb4⟩
      rw [TQ.out, EQ.out]
      have hB4 := hB3.trans (hb4.mono hB3.size)
      go_wp2_with fail
      refine (rtextD false hzr _ (hr.below hb4) (by omega)).mono ?_
      rintro e W5 ⟨rfl, hb5⟩
      go_wp2
      refine bodyPost_ret (v := .tuple #[.string (S (x / y)), .string (S (x % y)), .int .i64 0]) ?res rfl ⟨rfl, hB4.trans (hb5.mono hB4.size)⟩
      case res => simp [results, Tryz.f118, go_sem]
    · have hx0 : decide (x < 0) = true := by simp; omega
      have hy0' : decide (y < 0) = false := by simp; omega
      have hzq : Hid (sv true (x.natAbs / y.natAbs) = x / y) := Lib.hid (by have h := hq0; rw [if_neg (by omega)] at h; simpa [sv] using h)
      have hzr : Hid (sv false (x.natAbs % y.natAbs) = x % y) := Lib.hid (by simpa [sv] using hr0)
      have HR0 := Lib.hid (show x.natAbs % y.natAbs = 0 by omega)
      clear hq0 hr0 hc hx1 hy1
      go_enter Tryz.func118, Tryz.ntmps118
      go_wp2_with fail
      refine (rvalid_is ha hx _).mono ?_
      rintro e W ⟨rfl, rfl⟩
      go_wp2_with fail
      refine (rvalid_is hb hy _).mono ?_
      rintro e W ⟨rfl, rfl⟩
      go_wp2_with fail
      refine (rdigits_any ha hx _).mono ?_
      rintro e W ⟨A1, n1, c1, rfl, D1, hb1⟩
      rw [hx0]
      go_wp2_with fail
      refine (rdigits_any hb hy _).mono ?_
      rintro e W ⟨A2, n2, c2, rfl, D2, hb2⟩
      rw [hy0']
      have hB := hb1.trans (hb2.mono hb1.size)
      have D1' := D1.below hb2
      clear D1 hb1 hb2
      clear hx0 hy0'
      have L1 := D1'.le hx
      have L2 := D2.le hy
      go_wp2_with fail
      refine (rdivided_any A1 A2 n1 c1 n2 c2 _ _ _ D1' D2 L1 L2 HY0.out).mono ?_
      rintro e W3 ⟨Aq, nq, cq, Ar, nr, cr, rfl, hq, hr, hb3⟩
      have hB3 := hB.trans (hb3.mono hB.size)
      have Lq : nq ≤ 200 := hq.le (Nat.lt_of_le_of_lt (Nat.div_le_self _ _) hx)
      have Lr : nr ≤ 200 := hr.le (Nat.lt_trans (Nat.mod_lt _ HY0.out) hy)
      obtain rfl : nr = 0 := hr.zero.2 HR0.out
      go_wp2_with fail
      refine (rchecked_any true hzq _ hq (by omega)).mono ?_
      rintro e W4 ⟨rfl, hb4⟩
      rw [TQ.out, EQ.out]
      have hB4 := hB3.trans (hb4.mono hB3.size)
      go_wp2_with fail
      refine (rtextD false hzr _ (hr.below hb4) (by omega)).mono ?_
      rintro e W5 ⟨rfl, hb5⟩
      go_wp2
      refine bodyPost_ret (v := .tuple #[.string (S (x / y)), .string (S (x % y)), .int .i64 0]) ?res rfl ⟨rfl, hB4.trans (hb5.mono hB4.size)⟩
      case res => simp [results, Tryz.f118, go_sem]
    · have hx0 : decide (x < 0) = false := by simp; omega
      have hy0' : decide (y < 0) = true := by simp; omega
      have hzq : Hid (sv true (x.natAbs / y.natAbs) = x / y) := Lib.hid (by have h := hq0; rw [if_neg (by omega)] at h; simpa [sv] using h)
      have hzr : Hid (sv false (x.natAbs % y.natAbs) = x % y) := Lib.hid (by simpa [sv] using hr0)
      clear hq0 hr0 hc hx1 hy1
      go_enter Tryz.func118, Tryz.ntmps118
      go_wp2_with fail
      refine (rvalid_is ha hx _).mono ?_
      rintro e W ⟨rfl, rfl⟩
      go_wp2_with fail
      refine (rvalid_is hb hy _).mono ?_
      rintro e W ⟨rfl, rfl⟩
      go_wp2_with fail
      refine (rdigits_any ha hx _).mono ?_
      rintro e W ⟨A1, n1, c1, rfl, D1, hb1⟩
      rw [hx0]
      go_wp2_with fail
      refine (rdigits_any hb hy _).mono ?_
      rintro e W ⟨A2, n2, c2, rfl, D2, hb2⟩
      rw [hy0']
      have hB := hb1.trans (hb2.mono hb1.size)
      have D1' := D1.below hb2
      clear D1 hb1 hb2
      clear hx0 hy0'
      have L1 := D1'.le hx
      have L2 := D2.le hy
      go_wp2_with fail
      refine (rdivided_any A1 A2 n1 c1 n2 c2 _ _ _ D1' D2 L1 L2 HY0.out).mono ?_
      rintro e W3 ⟨Aq, nq, cq, Ar, nr, cr, rfl, hq, hr, hb3⟩
      have hB3 := hB.trans (hb3.mono hB.size)
      have Lq : nq ≤ 200 := hq.le (Nat.lt_of_le_of_lt (Nat.div_le_self _ _) hx)
      have Lr : nr ≤ 200 := hr.le (Nat.lt_trans (Nat.mod_lt _ HY0.out) hy)
      go_wp2_with fail
      refine (rchecked_any true hzq _ hq (by omega)).mono ?_
      rintro e W4 ⟨rfl, hb4⟩
      rw [TQ.out, EQ.out]
      have hB4 := hB3.trans (hb4.mono hB3.size)
      go_wp2_with fail
      refine (rtextD false hzr _ (hr.below hb4) (by omega)).mono ?_
      rintro e W5 ⟨rfl, hb5⟩
      go_wp2
      refine bodyPost_ret (v := .tuple #[.string (S (x / y)), .string (S (x % y)), .int .i64 0]) ?res rfl ⟨rfl, hB4.trans (hb5.mono hB4.size)⟩
      case res => simp [results, Tryz.f118, go_sem]
    · have hx0 : decide (x < 0) = false := by simp; omega
      have hy0' : decide (y < 0) = false := by simp; omega
      have hzq : Hid (sv false (x.natAbs / y.natAbs) = x / y) := Lib.hid (by have h := hq0; rw [if_pos (by omega)] at h; simpa [sv] using h)
      have hzr : Hid (sv false (x.natAbs % y.natAbs) = x % y) := Lib.hid (by simpa [sv] using hr0)
      clear hq0 hr0 hc hx1 hy1
      go_enter Tryz.func118, Tryz.ntmps118
      go_wp2_with fail
      refine (rvalid_is ha hx _).mono ?_
      rintro e W ⟨rfl, rfl⟩
      go_wp2_with fail
      refine (rvalid_is hb hy _).mono ?_
      rintro e W ⟨rfl, rfl⟩
      go_wp2_with fail
      refine (rdigits_any ha hx _).mono ?_
      rintro e W ⟨A1, n1, c1, rfl, D1, hb1⟩
      rw [hx0]
      go_wp2_with fail
      refine (rdigits_any hb hy _).mono ?_
      rintro e W ⟨A2, n2, c2, rfl, D2, hb2⟩
      rw [hy0']
      have hB := hb1.trans (hb2.mono hb1.size)
      have D1' := D1.below hb2
      clear D1 hb1 hb2
      clear hx0 hy0'
      have L1 := D1'.le hx
      have L2 := D2.le hy
      go_wp2_with fail
      refine (rdivided_any A1 A2 n1 c1 n2 c2 _ _ _ D1' D2 L1 L2 HY0.out).mono ?_
      rintro e W3 ⟨Aq, nq, cq, Ar, nr, cr, rfl, hq, hr, hb3⟩
      have hB3 := hB.trans (hb3.mono hB.size)
      have Lq : nq ≤ 200 := hq.le (Nat.lt_of_le_of_lt (Nat.div_le_self _ _) hx)
      have Lr : nr ≤ 200 := hr.le (Nat.lt_trans (Nat.mod_lt _ HY0.out) hy)
      go_wp2_with fail
      refine (rchecked_any false hzq _ hq (by omega)).mono ?_
      rintro e W4 ⟨rfl, hb4⟩
      rw [TQ.out, EQ.out]
      have hB4 := hB3.trans (hb4.mono hB3.size)
      go_wp2_with fail
      refine (rtextD false hzr _ (hr.below hb4) (by omega)).mono ?_
      rintro e W5 ⟨rfl, hb5⟩
      go_wp2
      refine bodyPost_ret (v := .tuple #[.string (S (x / y)), .string (S (x % y)), .int .i64 0]) ?res rfl ⟨rfl, hB4.trans (hb5.mono hB4.size)⟩
      case res => simp [results, Tryz.f118, go_sem]
  · have hx1 : x < 0 := by omega
    obtain ⟨hq0, hr0⟩ := div_fixed x y hy0 hx1 (fun e => hc (.inr e))
    clear hy0
    by_cases hy1 : y < 0
    · have hx0 : decide (x < 0) = true := by simp; omega
      have hy0' : decide (y < 0) = true := by simp; omega
      have hzq : Hid (sv false (x.natAbs / y.natAbs + 1) = x / y) := Lib.hid (by have h := hq0; rw [if_pos (by omega)] at h; simpa [sv] using h)
      have hzr : Hid (sv false (y.natAbs - x.natAbs % y.natAbs) = x % y) := Lib.hid (by simpa [sv] using hr0)
      have HR0 := Lib.hid (show 0 < x.natAbs % y.natAbs by omega)
      clear hq0 hr0 hc hx1 hy1
      go_enter Tryz.func118, Tryz.ntmps118
      go_wp2_with fail
      refine (rvalid_is ha hx _).mono ?_
      rintro e W ⟨rfl, rfl⟩
      go_wp2_with fail
      refine (rvalid_is hb hy _).mono ?_
      rintro e W ⟨rfl, rfl⟩
      go_wp2_with fail
      refine (rdigits_any ha hx _).mono ?_
      rintro e W ⟨A1, n1, c1, rfl, D1, hb1⟩
      rw [hx0]
      go_wp2_with fail
      refine (rdigits_any hb hy _).mono ?_
      rintro e W ⟨A2, n2, c2, rfl, D2, hb2⟩
      rw [hy0']
      have hB := hb1.trans (hb2.mono hb1.size)
      have D1' := D1.below hb2
      clear D1 hb1 hb2
      clear hx0 hy0'
      have L1 := D1'.le hx
      have L2 := D2.le hy
      go_wp2_with fail
      refine (rdivided_any A1 A2 n1 c1 n2 c2 _ _ _ D1' D2 L1 L2 HY0.out).mono ?_
      rintro e W3 ⟨Aq, nq, cq, Ar, nr, cr, rfl, hq, hr, hb3⟩
      have hB3 := hB.trans (hb3.mono hB.size)
      have Lq : nq ≤ 200 := hq.le (Nat.lt_of_le_of_lt (Nat.div_le_self _ _) hx)
      have Lr : nr ≤ 200 := hr.le (Nat.lt_trans (Nat.mod_lt _ HY0.out) hy)
      have hnr : 0 < nr := by
        rcases Nat.eq_zero_or_pos nr with h | h
        · have := hr.zero.1 h; have := HR0.out; omega
        · exact h
      have hY3 := D2.below hb3
      go_wp2_with fail
      refine (rplus_any Aq (some ⟨W3.heap.size, 0, none⟩) nq cq 1 1 _ 1 _ (hq.below ((Below.refl _ W3).alloc (Nat.le_refl _) _)) (lit_oneD W3) (by omega) (by omega)).mono ?_
      rintro e W4 ⟨As, ns, cs, rfl, hs, hb4', _⟩
      have hb4 : Below W3.heap.size W3 W4 := ((Below.refl _ W3).alloc (Nat.le_refl _) _).trans (hb4'.mono (by simp))
      have hB4 := hB3.trans (hb4.mono hB3.size)
      go_wp2_with fail
      refine (rminus_any A2 Ar n2 c2 nr cr _ _ _ (hY3.below hb4) (hr.below hb4) (by omega) (Nat.le_of_lt (Nat.mod_lt _ HY0.out))).mono ?_
      rintro e W5 ⟨Ad, nd, cd, rfl, hd, hb5, _⟩
      have hB5 := hB4.trans (hb5.mono hB4.size)
      have Ls : ns ≤ 201 := hs.le LS.out
      have Ld : nd ≤ 200 := hd.le (Nat.lt_of_le_of_lt (Nat.sub_le _ _) hy)
      go_wp2_with fail
      refine (rchecked_any false hzq _ (hs.below hb5) (by omega)).mono ?_
      rintro e W6 ⟨rfl, hb6⟩
      rw [TQ.out, EQ.out]
      have hB6 := hB5.trans (hb6.mono hB5.size)
      go_wp2_with fail
      refine (rtextD false hzr _ (hd.below hb6) (by omega)).mono ?_
      rintro e W7 ⟨rfl, hb7⟩
      go_wp2
      refine bodyPost_ret (v := .tuple #[.string (S (x / y)), .string (S (x % y)), .int .i64 0]) ?res rfl ⟨rfl, hB6.trans (hb7.mono hB6.size)⟩
      case res => simp [results, Tryz.f118, go_sem]
    · have hx0 : decide (x < 0) = true := by simp; omega
      have hy0' : decide (y < 0) = false := by simp; omega
      have hzq : Hid (sv true (x.natAbs / y.natAbs + 1) = x / y) := Lib.hid (by have h := hq0; rw [if_neg (by omega)] at h; simpa [sv] using h)
      have hzr : Hid (sv false (y.natAbs - x.natAbs % y.natAbs) = x % y) := Lib.hid (by simpa [sv] using hr0)
      have HR0 := Lib.hid (show 0 < x.natAbs % y.natAbs by omega)
      clear hq0 hr0 hc hx1 hy1
      go_enter Tryz.func118, Tryz.ntmps118
      go_wp2_with fail
      refine (rvalid_is ha hx _).mono ?_
      rintro e W ⟨rfl, rfl⟩
      go_wp2_with fail
      refine (rvalid_is hb hy _).mono ?_
      rintro e W ⟨rfl, rfl⟩
      go_wp2_with fail
      refine (rdigits_any ha hx _).mono ?_
      rintro e W ⟨A1, n1, c1, rfl, D1, hb1⟩
      rw [hx0]
      go_wp2_with fail
      refine (rdigits_any hb hy _).mono ?_
      rintro e W ⟨A2, n2, c2, rfl, D2, hb2⟩
      rw [hy0']
      have hB := hb1.trans (hb2.mono hb1.size)
      have D1' := D1.below hb2
      clear D1 hb1 hb2
      clear hx0 hy0'
      have L1 := D1'.le hx
      have L2 := D2.le hy
      go_wp2_with fail
      refine (rdivided_any A1 A2 n1 c1 n2 c2 _ _ _ D1' D2 L1 L2 HY0.out).mono ?_
      rintro e W3 ⟨Aq, nq, cq, Ar, nr, cr, rfl, hq, hr, hb3⟩
      have hB3 := hB.trans (hb3.mono hB.size)
      have Lq : nq ≤ 200 := hq.le (Nat.lt_of_le_of_lt (Nat.div_le_self _ _) hx)
      have Lr : nr ≤ 200 := hr.le (Nat.lt_trans (Nat.mod_lt _ HY0.out) hy)
      have hnr : 0 < nr := by
        rcases Nat.eq_zero_or_pos nr with h | h
        · have := hr.zero.1 h; have := HR0.out; omega
        · exact h
      have hY3 := D2.below hb3
      go_wp2_with fail
      refine (rplus_any Aq (some ⟨W3.heap.size, 0, none⟩) nq cq 1 1 _ 1 _ (hq.below ((Below.refl _ W3).alloc (Nat.le_refl _) _)) (lit_oneD W3) (by omega) (by omega)).mono ?_
      rintro e W4 ⟨As, ns, cs, rfl, hs, hb4', _⟩
      have hb4 : Below W3.heap.size W3 W4 := ((Below.refl _ W3).alloc (Nat.le_refl _) _).trans (hb4'.mono (by simp))
      have hB4 := hB3.trans (hb4.mono hB3.size)
      go_wp2_with fail
      refine (rminus_any A2 Ar n2 c2 nr cr _ _ _ (hY3.below hb4) (hr.below hb4) (by omega) (Nat.le_of_lt (Nat.mod_lt _ HY0.out))).mono ?_
      rintro e W5 ⟨Ad, nd, cd, rfl, hd, hb5, _⟩
      have hB5 := hB4.trans (hb5.mono hB4.size)
      have Ls : ns ≤ 201 := hs.le LS.out
      have Ld : nd ≤ 200 := hd.le (Nat.lt_of_le_of_lt (Nat.sub_le _ _) hy)
      go_wp2_with fail
      refine (rchecked_any true hzq _ (hs.below hb5) (by omega)).mono ?_
      rintro e W6 ⟨rfl, hb6⟩
      rw [TQ.out, EQ.out]
      have hB6 := hB5.trans (hb6.mono hB5.size)
      go_wp2_with fail
      refine (rtextD false hzr _ (hd.below hb6) (by omega)).mono ?_
      rintro e W7 ⟨rfl, hb7⟩
      go_wp2
      refine bodyPost_ret (v := .tuple #[.string (S (x / y)), .string (S (x % y)), .int .i64 0]) ?res rfl ⟨rfl, hB6.trans (hb7.mono hB6.size)⟩
      case res => simp [results, Tryz.f118, go_sem]
theorem rdivS {a b : ByteArray} {x y q r : Int} (ha : Is a x) (hb : Is b y) (hq : Hid (x / y = q)) (hr : Hid (x % y = r)) (hx : Fits x) (hy : Fits y) (hy0 : Hid (y ≠ 0)) (w : World) :
    Calls Tryz.prog 118 #[.string a, .string b] w (DivOk q r w) := by
  have := rdiv_core ha hb hx hy hy0.out w
  rw [hq.out, hr.out] at this
  exact this
set_option maxRecDepth 100000 in
set_option maxHeartbeats 2000000 in
theorem rgcdS {a b : ByteArray} {x y v : Int} (ha : Is a x) (hb : Is b y) (hv : Hid (((x.natAbs.gcd y.natAbs : Nat) : Int) = v)) (hx : Fits x) (hy : Fits y) (w : World) :
    Calls Tryz.prog 117 #[.string a, .string b] w (StrOk v w) := by
  have hX : Hid (x.natAbs < 10 ^ 200) := hx
  have hY : Hid (y.natAbs < 10 ^ 200) := hy
  have fg : Fits v := by rw [← hv.out]; exact gcd_fits hx hy
  go_enter Tryz.func117, Tryz.ntmps117
  go_wp2_with fail
  refine (rvalid_is ha hx _).mono ?_
  rintro e W ⟨rfl, hw⟩
  rw [hw]
  clear hw W
  go_wp2_with fail
  refine (rvalid_is hb hy _).mono ?_
  rintro e W ⟨rfl, hw⟩
  rw [hw]
  clear hw W
  go_wp2_with fail
  refine (rdigits_any ha hx _).mono ?_
  rintro e W ⟨A1, n1, c1, rfl, D1, hb1⟩
  go_wp2_with fail
  refine (rdigits_any hb hy _).mono ?_
  rintro e W ⟨A2, n2, c2, rfl, D2, hb2⟩
  have hB := hb1.trans (hb2.mono hb1.size)
  have D1' := D1.below hb2
  clear D1 hb1 hb2
  generalize decide (x < 0) = dx at *
  generalize decide (y < 0) = dy at *
  go_wp2
  go_loopw [7, 9] (fun kv lv wr => ∃ (A : Option Addr) (n c : Nat) (B : Option Addr) (m e p q : Nat), kv = .slice A n c ∧ lv = .slice B m e ∧ IsD wr A n c p ∧ IsD wr B m e q ∧ Hid (p.gcd q = x.natAbs.gcd y.natAbs) ∧ Below w.heap.size w wr ∧ Hid (p < 10 ^ 200) ∧ Hid (q < 10 ^ 200))
    (fun _ lv wr => numD wr lv)
  case atStart => exact ⟨A1, n1, c1, A2, n2, c2, _, _, rfl, rfl, D1', D2, rfl, hB, hX, hY⟩
  case round =>
    clear D1' D2 hB
    obtain ⟨A, n, c, B, m, e, p, q, rfl, rfl, hp, hq, hg, hBr, HP, HQ⟩ := hrel
    have Ln := hp.le HP.out
    have Lm := hq.le HQ.out
    by_cases hz : q = 0
    · have hm0 : m = 0 := hq.zero.2 hz
      subst hm0
      have hs : Hid (sv false p = v) := Lib.hid (by have h := hg.out; rw [hz, Nat.gcd_zero_right] at h; rw [← hv.out, ← h]; simp [sv])
      have TQ := Lib.hid (tText_fit fg)
      have EQ := Lib.hid (tErr_fit fg)
      clear hz
      go_wp2_with fail
      refine (rchecked_any false hs _ hp (by omega)).mono ?_
      rintro e' W4 ⟨rfl, hb4⟩
      rw [TQ.out, EQ.out]
      go_wp2
      refine bodyPost_ret (v := .tuple #[.string (S v), .int .i64 0]) ?res rfl ⟨rfl, hBr.trans (hb4.mono hBr.size)⟩
      case res => simp [results, Tryz.f117, go_sem]
    · have hm0 : 0 < m := by
        rcases Nat.eq_zero_or_pos m with h | h
        · exact absurd (hq.zero.1 h) hz
        · exact h
      have hqp : Hid (0 < q) := Lib.hid (by omega)
      clear hz
      go_wp2_with fail
      refine (rdivided_any A B n c m e p q _ hp hq (by omega) (by omega) hqp.out).mono ?_
      rintro e' w3 ⟨Aq, nq, cq, Ar, nr, cr, rfl, hqq, hrr, hb3⟩
      go_wp2
      go_roundw
      case rel => exact ⟨B, m, e, Ar, nr, cr, q, p % q, rfl, rfl, hq.below hb3, hrr, Lib.hid (by rw [← hg.out, Nat.gcd_comm p q, Nat.gcd_rec q p, Nat.gcd_comm]), hBr.trans (hb3.mono hBr.size), HQ, Lib.hid (Nat.lt_trans (Nat.mod_lt _ hqp.out) HQ.out)⟩
      case measure => rw [numD_eq hrr, numD_eq hq]; exact Nat.mod_lt _ hqp.out
end Go.Proofs.YtngohpgkceedeaaGreatDoor
