/-
  The reference implementation: its exported functions on sums, products and order.
-/
import Derived.Test.YtngohpgkceedeaaGreatDoorWLaw1
import Derived.Test.YtngohpgkceedeaaGreatDoorWRefQ
namespace Go.Proofs.YtngohpgkceedeaaGreatDoor
open Go Go.RowKit Go.Lib Go.Shelf

theorem IsD.bound {w : World} {A : Option Addr} {n c x : Nat} (h : IsD w A n c x) : x < 10 ^ n := by
  obtain ⟨l, h1, h2, rfl, _⟩ := h
  rw [h1.len]; exact val10_lt h2.1
theorem rvalid_is {a : ByteArray} {z : Int} (h : Is a z) (hf : Fits z) (w : World) : Calls Tryz.prog 114 #[.string a] w (RBool true w) := by
  have := rvalid_any a w (h.str hf)
  rwa [h.valid hf] at this
def TextD (z : Int) (w : World) (e : Ending) (w' : World) : Prop := e = .returned (.tuple #[.string (S z), .bool (decide (Fits z))]) ∧ Below w.heap.size w w'
theorem rtextD (neg : Bool) {A : Option Addr} {n c U : Nat} {z : Int} (hz : Hid (sv neg U = z)) (w : World) (h : IsD w A n c U) (hn : n ≤ 1000) : Calls Tryz.prog 166 #[.bool neg, .slice A n c] w (TextD z w) := by
  obtain ⟨l, h1, h2, h3, h4⟩ := h
  refine (rtext_any neg A n c l w h1 (by omega) h2.1).mono ?_
  rintro e w' ⟨rfl, hb⟩
  refine ⟨?_, hb⟩
  have e1 : (⟨(tx neg l).toArray⟩ : ByteArray) = S z := by
    rw [tx_itoa neg h2, h3, ← hz.out]
    unfold S sv
    cases neg <;> rfl
  have e2 : decide ((n : Int) ≤ 200) = decide (Fits z) := by
    have hza : z.natAbs = U := by rw [← hz.out]; unfold sv; cases neg <;> simp
    have h5 : (decDigits U).length ≤ 200 ↔ Fits z := by rw [← fits_iff, hza]
    have h6 : n = l.length := h1.len
    by_cases hl : l = []
    · subst hl
      have h7 : U = 0 := by rw [← h3]; rfl
      have h8 : n = 0 := h6
      have h9 : Fits z := h5.1 (by rw [h7, decDigits_zero]; decide)
      rw [h8]
      simp [h9]
    · have h7 : l.length = (decDigits U).length := by rw [← h3, ← txt10_norm h2 hl]; simp [txt10]
      have h8 : (n : Int) ≤ 200 ↔ Fits z := by rw [← h5, ← h7, ← h6]; omega
      simp [h8]
  rw [e1, e2]
def ChkOk (z : Int) (w : World) (e : Ending) (w' : World) : Prop := e = .returned (.tuple #[.string ⟨(tText z).toArray⟩, .int .i64 (tErr z)]) ∧ Below w.heap.size w w'
set_option maxRecDepth 100000 in
set_option maxHeartbeats 2000000 in
theorem rchecked_any (neg : Bool) {A : Option Addr} {n c U : Nat} {z : Int} (hz : Hid (sv neg U = z)) (w : World) (h : IsD w A n c U) (hn : n ≤ 1000) : Calls Tryz.prog 163 #[.bool neg, .slice A n c] w (ChkOk z w) := by
  by_cases hf : Fits z
  · have ht : (⟨(tText z).toArray⟩ : ByteArray) = S z := tText_fit hf
    have he := tErr_fit hf
    have hd : decide (Fits z) = true := by simpa using hf
    unfold ChkOk
    rw [ht, he]
    clear ht he
    go_enter Tryz.func163, Tryz.ntmps163
    go_wp2_with fail
    refine (rtextD neg hz _ h hn).mono ?_
    rintro e W ⟨rfl, hb⟩
    rw [hd]
    clear hd
    go_wp2
    go_ret2
    exact ⟨rfl, hb⟩
  · have ht : (⟨(tText z).toArray⟩ : ByteArray) = ⟨#[]⟩ := by rw [tText_big hf]
    have he := tErr_big hf
    have hd : decide (Fits z) = false := by simpa using hf
    unfold ChkOk
    rw [ht, he]
    clear ht he
    go_enter Tryz.func163, Tryz.ntmps163
    go_wp2_with fail
    refine (rtextD neg hz _ h hn).mono ?_
    rintro e W ⟨rfl, hb⟩
    rw [hd]
    clear hd
    go_wp2
    go_ret2
    exact ⟨rfl, hb⟩
set_option maxRecDepth 100000 in
set_option maxHeartbeats 2000000 in
theorem rcmpS {a b : ByteArray} {x y c : Int} (ha : Is a x) (hb : Is b y) (hc : Hid (cmpZ x y = c)) (hx : Fits x) (hy : Fits y) (w : World) :
    Calls Tryz.prog 115 #[.string a, .string b] w (CmpOk c w) := by
  by_cases h1 : x < 0 <;> by_cases h2 : y < 0
  · have hx0 : decide (x < 0) = true := by simp; omega
    have hy0 : decide (y < 0) = true := by simp; omega
    have hcc : cmpZ (y.natAbs : Int) (x.natAbs : Int) = c := by rw [← hc.out]; unfold cmpZ; split <;> split <;> first | rfl | omega | (split <;> first | rfl | omega | (split <;> first | rfl | omega))
    have HC := Lib.hid hcc
    clear hcc
    clear h1 h2
    go_enter Tryz.func115, Tryz.ntmps115
    go_wp2_with fail
    refine (rvalid_is ha hx _).mono ?_
    rintro e W ⟨rfl, rfl⟩
    go_wp2_with fail
    refine (rvalid_is hb hy _).mono ?_
    rintro e W ⟨rfl, rfl⟩
    go_wp2_with fail
    refine (rdigits_any ha hx _).mono ?_
    rintro e W ⟨A1, n1, c1, rfl, D1, hb1⟩
    rw [hx0]
    go_wp2_with fail
    refine (rdigits_any hb hy _).mono ?_
    rintro e W ⟨A2, n2, c2, rfl, D2, hb2⟩
    rw [hy0]
    have hB := hb1.trans (hb2.mono hb1.size)
    have D1' := D1.below hb2
    have L1 := D1'.le hx
    have L2 := D2.le hy
    clear D1 hb1 hb2 hx0 hy0
    go_wp2_with fail
    refine (rorder_any A2 A1 n2 c2 n1 c1 _ _ _ D2 D1' (by omega) (by omega)).mono ?_
    rintro e W9 ⟨rfl, hb9⟩
    rw [HC.out]
    go_wp2
    go_ret
    exact ⟨rfl, hB.trans (hb9.mono hB.size)⟩
  · have hx0 : decide (x < 0) = true := by simp; omega
    have hy0 : decide (y < 0) = false := by simp; omega
    obtain rfl : c = -1 := by rw [← hc.out]; unfold cmpZ; rw [if_pos (by omega)]
    clear h1 h2
    go_enter Tryz.func115, Tryz.ntmps115
    go_wp2_with fail
    refine (rvalid_is ha hx _).mono ?_
    rintro e W ⟨rfl, rfl⟩
    go_wp2_with fail
    refine (rvalid_is hb hy _).mono ?_
    rintro e W ⟨rfl, rfl⟩
    go_wp2_with fail
    refine (rdigits_any ha hx _).mono ?_
    rintro e W ⟨A1, n1, c1, rfl, D1, hb1⟩
    rw [hx0]
    go_wp2_with fail
    refine (rdigits_any hb hy _).mono ?_
    rintro e W ⟨A2, n2, c2, rfl, D2, hb2⟩
    rw [hy0]
    have hB := hb1.trans (hb2.mono hb1.size)
    have D1' := D1.below hb2
    have L1 := D1'.le hx
    have L2 := D2.le hy
    clear D1 hb1 hb2 hx0 hy0
    go_wp2
    go_ret
    exact ⟨rfl, hB⟩
  · have hx0 : decide (x < 0) = false := by simp; omega
    have hy0 : decide (y < 0) = true := by simp; omega
    obtain rfl : c = 1 := by rw [← hc.out]; unfold cmpZ; rw [if_neg (by omega), if_pos (by omega)]
    clear h1 h2
    go_enter Tryz.func115, Tryz.ntmps115
    go_wp2_with fail
    refine (rvalid_is ha hx _).mono ?_
    rintro e W ⟨rfl, rfl⟩
    go_wp2_with fail
    refine (rvalid_is hb hy _).mono ?_
    rintro e W ⟨rfl, rfl⟩
    go_wp2_with fail
    refine (rdigits_any ha hx _).mono ?_
    rintro e W ⟨A1, n1, c1, rfl, D1, hb1⟩
    rw [hx0]
    go_wp2_with fail
    refine (rdigits_any hb hy _).mono ?_
    rintro e W ⟨A2, n2, c2, rfl, D2, hb2⟩
    rw [hy0]
    have hB := hb1.trans (hb2.mono hb1.size)
    have D1' := D1.below hb2
    have L1 := D1'.le hx
    have L2 := D2.le hy
    clear D1 hb1 hb2 hx0 hy0
    go_wp2
    go_ret
    exact ⟨rfl, hB⟩
  · have hx0 : decide (x < 0) = false := by simp; omega
    have hy0 : decide (y < 0) = false := by simp; omega
    have hcc : cmpZ (x.natAbs : Int) (y.natAbs : Int) = c := by rw [← hc.out, show (x.natAbs : Int) = x by omega, show (y.natAbs : Int) = y by omega]
    have HC := Lib.hid hcc
    clear hcc
    clear h1 h2
    go_enter Tryz.func115, Tryz.ntmps115
    go_wp2_with fail
    refine (rvalid_is ha hx _).mono ?_
    rintro e W ⟨rfl, rfl⟩
    go_wp2_with fail
    refine (rvalid_is hb hy _).mono ?_
    rintro e W ⟨rfl, rfl⟩
    go_wp2_with fail
    refine (rdigits_any ha hx _).mono ?_
    rintro e W ⟨A1, n1, c1, rfl, D1, hb1⟩
    rw [hx0]
    go_wp2_with fail
    refine (rdigits_any hb hy _).mono ?_
    rintro e W ⟨A2, n2, c2, rfl, D2, hb2⟩
    rw [hy0]
    have hB := hb1.trans (hb2.mono hb1.size)
    have D1' := D1.below hb2
    have L1 := D1'.le hx
    have L2 := D2.le hy
    clear D1 hb1 hb2 hx0 hy0
    go_wp2_with fail
    refine (rorder_any A1 A2 n1 c1 n2 c2 _ _ _ D1' D2 (by omega) (by omega)).mono ?_
    rintro e W9 ⟨rfl, hb9⟩
    rw [HC.out]
    go_wp2
    go_ret
    exact ⟨rfl, hB.trans (hb9.mono hB.size)⟩
end Go.Proofs.YtngohpgkceedeaaGreatDoor
