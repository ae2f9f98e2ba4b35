/-
  The reference implementation: its exported functions on sums, products and order.
-/
import Derived.Test.YtngohpgkceedeaaGreatDoorLaw1
import Derived.Test.YtngohpgkceedeaaGreatDoorRefQ
namespace Go.Proofs.YtngohpgkceedeaaGreatDoor
open Go Go.RowKit Go.Lib Go.Shelf

theorem IsD.bound {w : World} {A : Option Addr} {n c x : Nat} (h : IsD w A n c x) : x < 10 ^ n := by
  obtain ⟨l, h1, h2, rfl, _⟩ := h
  rw [h1.len]; exact val10_lt h2.1
theorem IsD.len400 {w W : World} {A B C : Option Addr} {n c m d k e x y : Nat} (h : IsD W C k e (x * y)) (hn : n ≤ 200) (hm : m ≤ 200) (hx : IsD w A n c x) (hy : IsD w B m d y) (_hb : Below w.heap.size w W) : k ≤ 400 := by
  have h1 := hx.bound
  have h2 := hy.bound
  have h3 : x * y < 10 ^ (n + m) := by rw [Nat.pow_add]; exact Nat.mul_lt_mul'' h1 h2
  have := h.le h3
  omega
theorem rvalid_is {a : ByteArray} {z : Int} (h : Is a z) (hf : Fits z) (w : World) : Calls Tryz.prog 114 #[.string a] w (RBool true w) := by
  have := rvalid_any a w (h.str hf)
  rwa [h.valid hf] at this
theorem rvalid_not {a : ByteArray} (h : validB a.data.toList = false) (hs : Str a) (w : World) : Calls Tryz.prog 114 #[.string a] w (RBool false w) := by
  have := rvalid_any a w hs
  rwa [h] at this
def TextD (z : Int) (w : World) (e : Ending) (w' : World) : Prop := e = .returned (.tuple #[.string (S z), .bool (decide (Fits z))]) ∧ Below w.heap.size w w'
theorem rtextD (neg : Bool) {A : Option Addr} {n c U : Nat} {z : Int} (hz : Hid (sv neg U = z)) (w : World) (h : IsD w A n c U) (hn : n ≤ 1000) : Calls Tryz.prog 166 #[.bool neg, .slice A n c] w (TextD z w) := by
  obtain ⟨l, h1, h2, h3, h4⟩ := h
  refine (rtext_any neg A n c l w h1 (by omega) h2.1).mono ?_
  rintro e w' ⟨rfl, hb⟩
  refine ⟨?_, hb⟩
  have e1 : (⟨(tx neg l).toArray⟩ : ByteArray) = S z := by
    rw [tx_itoa neg h2, h3, ← hz.out]
    unfold S sv
    cases neg <;> rfl
  have e2 : decide ((n : Int) ≤ 200) = decide (Fits z) := by
    have hza : z.natAbs = U := by rw [← hz.out]; unfold sv; cases neg <;> simp
    have h5 : (decDigits U).length ≤ 200 ↔ Fits z := by rw [← fits_iff, hza]
    have h6 : n = l.length := h1.len
    by_cases hl : l = []
    · subst hl
      have h7 : U = 0 := by rw [← h3]; rfl
      have h8 : n = 0 := h6
      have h9 : Fits z := h5.1 (by rw [h7, decDigits_zero]; decide)
      rw [h8]
      simp [h9]
    · have h7 : l.length = (decDigits U).length := by rw [← h3, ← txt10_norm h2 hl]; simp [txt10]
      have h8 : (n : Int) ≤ 200 ↔ Fits z := by rw [← h5, ← h7, ← h6]; omega
      simp [h8]
  rw [e1, e2]
def ChkOk (z : Int) (w : World) (e : Ending) (w' : World) : Prop := e = .returned (.tuple #[.string ⟨(tText z).toArray⟩, .int .i64 (tErr z)]) ∧ Below w.heap.size w w'
set_option maxRecDepth 100000 in
set_option maxHeartbeats 2000000 in
theorem rchecked_any (neg : Bool) {A : Option Addr} {n c U : Nat} {z : Int} (hz : Hid (sv neg U = z)) (w : World) (h : IsD w A n c U) (hn : n ≤ 1000) : Calls Tryz.prog 163 #[.bool neg, .slice A n c] w (ChkOk z w) := by
  by_cases hf : Fits z
  · have ht : (⟨(tText z).toArray⟩ : ByteArray) = S z := tText_fit hf
    have he := tErr_fit hf
    have hd : decide (Fits z) = true := by simpa using hf
    unfold ChkOk
    rw [ht, he]
    clear ht he
    go_enter Tryz.func163, Tryz.ntmps163
    go_wp2_with fail
    refine (rtextD neg hz _ h hn).mono ?_
    rintro e W ⟨rfl, hb⟩
    rw [hd]
    clear hd
    go_wp2
    go_ret2
    exact ⟨rfl, hb⟩
  · have ht : (⟨(tText z).toArray⟩ : ByteArray) = ⟨#[]⟩ := by rw [tText_big hf]
    have he := tErr_big hf
    have hd : decide (Fits z) = false := by simpa using hf
    unfold ChkOk
    rw [ht, he]
    clear ht he
    go_enter Tryz.func163, Tryz.ntmps163
    go_wp2_with fail
    refine (rtextD neg hz _ h hn).mono ?_
    rintro e W ⟨rfl, hb⟩
    rw [hd]
    clear hd
    go_wp2
    go_ret2
    exact ⟨rfl, hb⟩
theorem pow401 : Hid (∀ X Y : Nat, X < 10 ^ 200 → Y < 10 ^ 200 → X + Y < 10 ^ 201) := Lib.hid (fun X Y h1 h2 => by
  rw [show (201 : Nat) = 200 + 1 from rfl, Nat.pow_succ]
  generalize (10 : Nat) ^ 200 = T at *
  omega)
set_option maxRecDepth 100000 in
set_option maxHeartbeats 2000000 in
theorem rsum_any (nx ny : Bool) (A B : Option Addr) (n c m d X Y : Nat) (z : Int) (w : World) (hs : Hid (sv nx X + sv ny Y = z)) (hx : IsD w A n c X) (hy : IsD w B m d Y) (hX : Hid (X < 10 ^ 200)) (hY : Hid (Y < 10 ^ 200)) :
    Calls Tryz.prog 161 #[.bool nx, .slice A n c, .bool ny, .slice B m d] w (ChkOk z w) := by
  have hn := hx.le hX.out
  have hm := hy.le hY.out
  cases nx <;> cases ny
  · have hz : Hid (sv false (X + Y) = z) := Lib.hid (by rw [← hs.out]; simp [sv]; try omega)
    clear hs
    go_enter Tryz.func161, Tryz.ntmps161
    go_wp2_with fail
    refine (rplus_any A B n c m d X Y _ hx hy (by omega) (by omega)).mono ?_
    rintro e W ⟨A1, n1, c1, rfl, h1, hb, _⟩
    have hn1 := h1.le (K := 201) (Nat.lt_of_le_of_lt (by omega) (pow401.out X Y hX.out hY.out))
    go_wp2_with fail
    refine (rchecked_any false hz _ h1 (by omega)).mono ?_
    rintro e W2 ⟨rfl, hb2⟩
    go_wp2
    refine bodyPost_ret (v := .tuple #[.string ⟨(tText z).toArray⟩, .int .i64 (tErr z)]) ?res rfl ⟨rfl, hb.trans (hb2.mono hb.size)⟩
    case res => simp [results, Tryz.f161, go_sem]
  · by_cases hxy : Y ≤ X
    · have hz : Hid (sv false (X - Y) = z) := Lib.hid (by rw [← hs.out]; simp [sv]; try omega)
      have hcz : 0 ≤ cmpZ (X : Int) (Y : Int) := by unfold cmpZ; split <;> (try split) <;> omega
      have HXY := Lib.hid hxy
      clear hs hxy
      go_enter Tryz.func161, Tryz.ntmps161
      go_wp2_with fail
      refine (rorder_any A B n c m d X Y _ hx hy (by omega) (by omega)).mono ?_
      rintro e W0 ⟨rfl, hb0⟩
      go_wp2_with fail
      refine (rminus_any A B n c m d X Y _ (hx.below hb0) (hy.below hb0) (by omega) HXY.out).mono ?_
      rintro e W ⟨A1, n1, c1, rfl, h1, hb1, _⟩
      have hb := hb0.trans (hb1.mono hb0.size)
      clear hb0 hb1
      have hn1 := h1.le (K := 201) (Nat.lt_of_le_of_lt (by omega) (pow401.out X Y hX.out hY.out))
      go_wp2_with fail
      refine (rchecked_any false hz _ h1 (by omega)).mono ?_
      rintro e W2 ⟨rfl, hb2⟩
      go_wp2
      refine bodyPost_ret (v := .tuple #[.string ⟨(tText z).toArray⟩, .int .i64 (tErr z)]) ?res rfl ⟨rfl, hb.trans (hb2.mono hb.size)⟩
      case res => simp [results, Tryz.f161, go_sem]
    · have hz : Hid (sv true (Y - X) = z) := Lib.hid (by rw [← hs.out]; simp [sv]; try omega)
      have hcz : cmpZ (X : Int) (Y : Int) < 0 := by unfold cmpZ; split <;> (try split) <;> omega
      have HXY := Lib.hid hxy
      clear hs hxy
      go_enter Tryz.func161, Tryz.ntmps161
      go_wp2_with fail
      refine (rorder_any A B n c m d X Y _ hx hy (by omega) (by omega)).mono ?_
      rintro e W0 ⟨rfl, hb0⟩
      go_wp2_with fail
      refine (rminus_any B A m d n c Y X _ (hy.below hb0) (hx.below hb0) (by omega) (by have := HXY.out; omega)).mono ?_
      rintro e W ⟨A1, n1, c1, rfl, h1, hb1, _⟩
      have hb := hb0.trans (hb1.mono hb0.size)
      clear hb0 hb1
      have hn1 := h1.le (K := 201) (Nat.lt_of_le_of_lt (by omega) (pow401.out X Y hX.out hY.out))
      go_wp2_with fail
      refine (rchecked_any true hz _ h1 (by omega)).mono ?_
      rintro e W2 ⟨rfl, hb2⟩
      go_wp2
      refine bodyPost_ret (v := .tuple #[.string ⟨(tText z).toArray⟩, .int .i64 (tErr z)]) ?res rfl ⟨rfl, hb.trans (hb2.mono hb.size)⟩
      case res => simp [results, Tryz.f161, go_sem]
  · by_cases hxy : Y ≤ X
    · have hz : Hid (sv true (X - Y) = z) := Lib.hid (by rw [← hs.out]; simp [sv]; try omega)
      have hcz : 0 ≤ cmpZ (X : Int) (Y : Int) := by unfold cmpZ; split <;> (try split) <;> omega
      have HXY := Lib.hid hxy
      clear hs hxy
      go_enter Tryz.func161, Tryz.ntmps161
      go_wp2_with fail
      refine (rorder_any A B n c m d X Y _ hx hy (by omega) (by omega)).mono ?_
      rintro e W0 ⟨rfl, hb0⟩
      go_wp2_with fail
      refine (rminus_any A B n c m d X Y _ (hx.below hb0) (hy.below hb0) (by omega) HXY.out).mono ?_
      rintro e W ⟨A1, n1, c1, rfl, h1, hb1, _⟩
      have hb := hb0.trans (hb1.mono hb0.size)
      clear hb0 hb1
      have hn1 := h1.le (K := 201) (Nat.lt_of_le_of_lt (by omega) (pow401.out X Y hX.out hY.out))
      go_wp2_with fail
      refine (rchecked_any true hz _ h1 (by omega)).mono ?_
      rintro e W2 ⟨rfl, hb2⟩
      go_wp2
      refine bodyPost_ret (v := .tuple #[.string ⟨(tText z).toArray⟩, .int .i64 (tErr z)]) ?res rfl ⟨rfl, hb.trans (hb2.mono hb.size)⟩
      case res => simp [results, Tryz.f161, go_sem]
    · have hz : Hid (sv false (Y - X) = z) := Lib.hid (by rw [← hs.out]; simp [sv]; try omega)
      have hcz : cmpZ (X : Int) (Y : Int) < 0 := by unfold cmpZ; split <;> (try split) <;> omega
      have HXY := Lib.hid hxy
      clear hs hxy
      go_enter Tryz.func161, Tryz.ntmps161
      go_wp2_with fail
      refine (rorder_any A B n c m d X Y _ hx hy (by omega) (by omega)).mono ?_
      rintro e W0 ⟨rfl, hb0⟩
      go_wp2_with fail
      refine (rminus_any B A m d n c Y X _ (hy.below hb0) (hx.below hb0) (by omega) (by have := HXY.out; omega)).mono ?_
      rintro e W ⟨A1, n1, c1, rfl, h1, hb1, _⟩
      have hb := hb0.trans (hb1.mono hb0.size)
      clear hb0 hb1
      have hn1 := h1.le (K := 201) (Nat.lt_of_le_of_lt (by omega) (pow401.out X Y hX.out hY.out))
      go_wp2_with fail
      refine (rchecked_any false hz _ h1 (by omega)).mono ?_
      rintro e W2 ⟨rfl, hb2⟩
      go_wp2
      refine bodyPost_ret (v := .tuple #[.string ⟨(tText z).toArray⟩, .int .i64 (tErr z)]) ?res rfl ⟨rfl, hb.trans (hb2.mono hb.size)⟩
      case res => simp [results, Tryz.f161, go_sem]
  · have hz : Hid (sv true (X + Y) = z) := Lib.hid (by rw [← hs.out]; simp [sv]; try omega)
    clear hs
    go_enter Tryz.func161, Tryz.ntmps161
    go_wp2_with fail
    refine (rplus_any A B n c m d X Y _ hx hy (by omega) (by omega)).mono ?_
    rintro e W ⟨A1, n1, c1, rfl, h1, hb, _⟩
    have hn1 := h1.le (K := 201) (Nat.lt_of_le_of_lt (by omega) (pow401.out X Y hX.out hY.out))
    go_wp2_with fail
    refine (rchecked_any true hz _ h1 (by omega)).mono ?_
    rintro e W2 ⟨rfl, hb2⟩
    go_wp2
    refine bodyPost_ret (v := .tuple #[.string ⟨(tText z).toArray⟩, .int .i64 (tErr z)]) ?res rfl ⟨rfl, hb.trans (hb2.mono hb.size)⟩
    case res => simp [results, Tryz.f161, go_sem]
set_option maxRecDepth 100000 in
set_option maxHeartbeats 2000000 in
theorem rcmpS {a b : ByteArray} {x y c : Int} (ha : Is a x) (hb : Is b y) (hc : Hid (cmpZ x y = c)) (hx : Fits x) (hy : Fits y) (w : World) :
    Calls Tryz.prog 115 #[.string a, .string b] w (CmpOk c w) := by
  by_cases h1 : x < 0 <;> by_cases h2 : y < 0
  · have hx0 : decide (x < 0) = true := by simp; omega
    have hy0 : decide (y < 0) = true := by simp; omega
    have hcc : cmpZ (y.natAbs : Int) (x.natAbs : Int) = c := by rw [← hc.out]; unfold cmpZ; split <;> split <;> first | rfl | omega | (split <;> first | rfl | omega | (split <;> first | rfl | omega))
    have HC := Lib.hid hcc
    clear hcc
    clear h1 h2
    go_enter Tryz.func115, Tryz.ntmps115
    go_wp2_with fail
    refine (rvalid_is ha hx _).mono ?_
    rintro e W ⟨rfl, rfl⟩
    go_wp2_with fail
    refine (rvalid_is hb hy _).mono ?_
    rintro e W ⟨rfl, rfl⟩
    go_wp2_with fail
    refine (rdigits_any ha hx _).mono ?_
    rintro e W ⟨A1, n1, c1, rfl, D1, hb1⟩
    rw [hx0]
    go_wp2_with fail
    refine (rdigits_any hb hy _).mono ?_
    rintro e W ⟨A2, n2, c2, rfl, D2, hb2⟩
    rw [hy0]
    have hB := hb1.trans (hb2.mono hb1.size)
    have D1' := D1.below hb2
    have L1 := D1'.le hx
    have L2 := D2.le hy
    clear D1 hb1 hb2 hx0 hy0
    go_wp2_with fail
    refine (rorder_any A2 A1 n2 c2 n1 c1 _ _ _ D2 D1' (by omega) (by omega)).mono ?_
    rintro e W9 ⟨rfl, hb9⟩
    rw [HC.out]
    go_wp2
    go_ret
    exact ⟨rfl, hB.trans (hb9.mono hB.size)⟩
  · have hx0 : decide (x < 0) = true := by simp; omega
    have hy0 : decide (y < 0) = false := by simp; omega
    obtain rfl : c = -1 := by rw [← hc.out]; unfold cmpZ; rw [if_pos (by omega)]
    clear h1 h2
    go_enter Tryz.func115, Tryz.ntmps115
    go_wp2_with fail
    refine (rvalid_is ha hx _).mono ?_
    rintro e W ⟨rfl, rfl⟩
    go_wp2_with fail
    refine (rvalid_is hb hy _).mono ?_
    rintro e W ⟨rfl, rfl⟩
    go_wp2_with fail
    refine (rdigits_any ha hx _).mono ?_
    rintro e W ⟨A1, n1, c1, rfl, D1, hb1⟩
    rw [hx0]
    go_wp2_with fail
    refine (rdigits_any hb hy _).mono ?_
    rintro e W ⟨A2, n2, c2, rfl, D2, hb2⟩
    rw [hy0]
    have hB := hb1.trans (hb2.mono hb1.size)
    have D1' := D1.below hb2
    have L1 := D1'.le hx
    have L2 := D2.le hy
    clear D1 hb1 hb2 hx0 hy0
    go_wp2
    go_ret
    exact ⟨rfl, hB⟩
  · have hx0 : decide (x < 0) = false := by simp; omega
    have hy0 : decide (y < 0) = true := by simp; omega
    obtain rfl : c = 1 := by rw [← hc.out]; unfold cmpZ; rw [if_neg (by omega), if_pos (by omega)]
    clear h1 h2
    go_enter Tryz.func115, Tryz.ntmps115
    go_wp2_with fail
    refine (rvalid_is ha hx _).mono ?_
    rintro e W ⟨rfl, rfl⟩
    go_wp2_with fail
    refine (rvalid_is hb hy _).mono ?_
    rintro e W ⟨rfl, rfl⟩
    go_wp2_with fail
    refine (rdigits_any ha hx _).mono ?_
    rintro e W ⟨A1, n1, c1, rfl, D1, hb1⟩
    rw [hx0]
    go_wp2_with fail
    refine (rdigits_any hb hy _).mono ?_
    rintro e W ⟨A2, n2, c2, rfl, D2, hb2⟩
    rw [hy0]
    have hB := hb1.trans (hb2.mono hb1.size)
    have D1' := D1.below hb2
    have L1 := D1'.le hx
    have L2 := D2.le hy
    clear D1 hb1 hb2 hx0 hy0
    go_wp2
    go_ret
    exact ⟨rfl, hB⟩
  · have hx0 : decide (x < 0) = false := by simp; omega
    have hy0 : decide (y < 0) = false := by simp; omega
    have hcc : cmpZ (x.natAbs : Int) (y.natAbs : Int) = c := by rw [← hc.out, show (x.natAbs : Int) = x by omega, show (y.natAbs : Int) = y by omega]
    have HC := Lib.hid hcc
    clear hcc
    clear h1 h2
    go_enter Tryz.func115, Tryz.ntmps115
    go_wp2_with fail
    refine (rvalid_is ha hx _).mono ?_
    rintro e W ⟨rfl, rfl⟩
    go_wp2_with fail
    refine (rvalid_is hb hy _).mono ?_
    rintro e W ⟨rfl, rfl⟩
    go_wp2_with fail
    refine (rdigits_any ha hx _).mono ?_
    rintro e W ⟨A1, n1, c1, rfl, D1, hb1⟩
    rw [hx0]
    go_wp2_with fail
    refine (rdigits_any hb hy _).mono ?_
    rintro e W ⟨A2, n2, c2, rfl, D2, hb2⟩
    rw [hy0]
    have hB := hb1.trans (hb2.mono hb1.size)
    have D1' := D1.below hb2
    have L1 := D1'.le hx
    have L2 := D2.le hy
    clear D1 hb1 hb2 hx0 hy0
    go_wp2_with fail
    refine (rorder_any A1 A2 n1 c1 n2 c2 _ _ _ D1' D2 (by omega) (by omega)).mono ?_
    rintro e W9 ⟨rfl, hb9⟩
    rw [HC.out]
    go_wp2
    go_ret
    exact ⟨rfl, hB.trans (hb9.mono hB.size)⟩
theorem rvalid_yes {a : ByteArray} (h : validB a.data.toList = true) (hs : Str a) (w : World) : Calls Tryz.prog 114 #[.string a] w (RBool true w) := by
  have := rvalid_any a w hs
  rwa [h] at this
set_option maxRecDepth 100000 in
set_option maxHeartbeats 2000000 in
theorem rcompare_bad {a b : ByteArray} (hv : (validB a.data.toList && validB b.data.toList) = false) (hsa : Str a) (hsb : Str b) (w : World) :
    Calls Tryz.prog 115 #[.string a, .string b] w (CmpOk 0 w) := by
  by_cases h1 : validB a.data.toList = true
  · have h2 : validB b.data.toList = false := by rw [h1, Bool.true_and] at hv; exact hv
    have H1 : Hid (validB a.data.toList = true) := h1
    have H2 : Hid (validB b.data.toList = false) := h2
    clear h1 h2 hv
    go_enter Tryz.func115, Tryz.ntmps115
    go_wp2_with fail
    refine (rvalid_yes H1.out hsa _).mono ?_
    rintro e W ⟨rfl, rfl⟩
    go_wp2_with fail
    refine (rvalid_not H2.out hsb _).mono ?_
    rintro e W ⟨rfl, rfl⟩
    go_wp2
    go_ret
    exact ⟨rfl, Below.refl _ _⟩
  · have h1 : validB a.data.toList = false := by simpa using h1
    have H1 : Hid (validB a.data.toList = false) := h1
    clear h1 hv
    go_enter Tryz.func115, Tryz.ntmps115
    go_wp2_with fail
    refine (rvalid_not H1.out hsa _).mono ?_
    rintro e W ⟨rfl, rfl⟩
    go_wp2
    go_ret
    exact ⟨rfl, Below.refl _ _⟩
set_option maxRecDepth 100000 in
set_option maxHeartbeats 2000000 in
theorem radd_bad {a b : ByteArray} (hv : (validB a.data.toList && validB b.data.toList) = false) (hsa : Str a) (hsb : Str b) (w : World) :
    Calls Tryz.prog 188 #[.string a, .string b] w (ErrOk w) := by
  by_cases h1 : validB a.data.toList = true
  · have h2 : validB b.data.toList = false := by rw [h1, Bool.true_and] at hv; exact hv
    have H1 : Hid (validB a.data.toList = true) := h1
    have H2 : Hid (validB b.data.toList = false) := h2
    clear h1 h2 hv
    go_enter Tryz.func188, Tryz.ntmps188
    go_wp2_with fail
    refine (rvalid_yes H1.out hsa _).mono ?_
    rintro e W ⟨rfl, rfl⟩
    go_wp2_with fail
    refine (rvalid_not H2.out hsb _).mono ?_
    rintro e W ⟨rfl, rfl⟩
    go_wp2
    go_ret2
    exact ⟨rfl, Below.refl _ _⟩
  · have h1 : validB a.data.toList = false := by simpa using h1
    have H1 : Hid (validB a.data.toList = false) := h1
    clear h1 hv
    go_enter Tryz.func188, Tryz.ntmps188
    go_wp2_with fail
    refine (rvalid_not H1.out hsa _).mono ?_
    rintro e W ⟨rfl, rfl⟩
    go_wp2
    go_ret2
    exact ⟨rfl, Below.refl _ _⟩
set_option maxRecDepth 100000 in
set_option maxHeartbeats 2000000 in
theorem rsub_bad {a b : ByteArray} (hv : (validB a.data.toList && validB b.data.toList) = false) (hsa : Str a) (hsb : Str b) (w : World) :
    Calls Tryz.prog 116 #[.string a, .string b] w (ErrOk w) := by
  by_cases h1 : validB a.data.toList = true
  · have h2 : validB b.data.toList = false := by rw [h1, Bool.true_and] at hv; exact hv
    have H1 : Hid (validB a.data.toList = true) := h1
    have H2 : Hid (validB b.data.toList = false) := h2
    clear h1 h2 hv
    go_enter Tryz.func116, Tryz.ntmps116
    go_wp2_with fail
    refine (rvalid_yes H1.out hsa _).mono ?_
    rintro e W ⟨rfl, rfl⟩
    go_wp2_with fail
    refine (rvalid_not H2.out hsb _).mono ?_
    rintro e W ⟨rfl, rfl⟩
    go_wp2
    go_ret2
    exact ⟨rfl, Below.refl _ _⟩
  · have h1 : validB a.data.toList = false := by simpa using h1
    have H1 : Hid (validB a.data.toList = false) := h1
    clear h1 hv
    go_enter Tryz.func116, Tryz.ntmps116
    go_wp2_with fail
    refine (rvalid_not H1.out hsa _).mono ?_
    rintro e W ⟨rfl, rfl⟩
    go_wp2
    go_ret2
    exact ⟨rfl, Below.refl _ _⟩
set_option maxRecDepth 100000 in
set_option maxHeartbeats 2000000 in
theorem rmul_bad {a b : ByteArray} (hv : (validB a.data.toList && validB b.data.toList) = false) (hsa : Str a) (hsb : Str b) (w : World) :
    Calls Tryz.prog 203 #[.string a, .string b] w (ErrOk w) := by
  by_cases h1 : validB a.data.toList = true
  · have h2 : validB b.data.toList = false := by rw [h1, Bool.true_and] at hv; exact hv
    have H1 : Hid (validB a.data.toList = true) := h1
    have H2 : Hid (validB b.data.toList = false) := h2
    clear h1 h2 hv
    go_enter Tryz.func203, Tryz.ntmps203
    go_wp2_with fail
    refine (rvalid_yes H1.out hsa _).mono ?_
    rintro e W ⟨rfl, rfl⟩
    go_wp2_with fail
    refine (rvalid_not H2.out hsb _).mono ?_
    rintro e W ⟨rfl, rfl⟩
    go_wp2
    go_ret2
    exact ⟨rfl, Below.refl _ _⟩
  · have h1 : validB a.data.toList = false := by simpa using h1
    have H1 : Hid (validB a.data.toList = false) := h1
    clear h1 hv
    go_enter Tryz.func203, Tryz.ntmps203
    go_wp2_with fail
    refine (rvalid_not H1.out hsa _).mono ?_
    rintro e W ⟨rfl, rfl⟩
    go_wp2
    go_ret2
    exact ⟨rfl, Below.refl _ _⟩
set_option maxRecDepth 100000 in
set_option maxHeartbeats 2000000 in
theorem rgcd_bad {a b : ByteArray} (hv : (validB a.data.toList && validB b.data.toList) = false) (hsa : Str a) (hsb : Str b) (w : World) :
    Calls Tryz.prog 117 #[.string a, .string b] w (ErrOk w) := by
  by_cases h1 : validB a.data.toList = true
  · have h2 : validB b.data.toList = false := by rw [h1, Bool.true_and] at hv; exact hv
    have H1 : Hid (validB a.data.toList = true) := h1
    have H2 : Hid (validB b.data.toList = false) := h2
    clear h1 h2 hv
    go_enter Tryz.func117, Tryz.ntmps117
    go_wp2_with fail
    refine (rvalid_yes H1.out hsa _).mono ?_
    rintro e W ⟨rfl, rfl⟩
    go_wp2_with fail
    refine (rvalid_not H2.out hsb _).mono ?_
    rintro e W ⟨rfl, rfl⟩
    go_wp2
    go_ret2
    exact ⟨rfl, Below.refl _ _⟩
  · have h1 : validB a.data.toList = false := by simpa using h1
    have H1 : Hid (validB a.data.toList = false) := h1
    clear h1 hv
    go_enter Tryz.func117, Tryz.ntmps117
    go_wp2_with fail
    refine (rvalid_not H1.out hsa _).mono ?_
    rintro e W ⟨rfl, rfl⟩
    go_wp2
    go_ret2
    exact ⟨rfl, Below.refl _ _⟩
set_option maxRecDepth 100000 in
set_option maxHeartbeats 2000000 in
theorem radd_any {a b : ByteArray} {x y z : Int} (ha : Is a x) (hb : Is b y) (hz : Hid (x + y = z)) (hx : Fits x) (hy : Fits y) (w : World) :
    Calls Tryz.prog 188 #[.string a, .string b] w (ChkOk z w) := by
  have sx := sv_abs x
  have sy := sv_abs y
  have hX : Hid (x.natAbs < 10 ^ 200) := hx
  have hY : Hid (y.natAbs < 10 ^ 200) := hy
  have hs : Hid (sv (decide (x < 0)) x.natAbs + sv (decide (y < 0)) y.natAbs = z) := Lib.hid (by rw [sx, sy]; exact hz.out)
  clear sx sy
  go_enter Tryz.func188, Tryz.ntmps188
  go_wp2_with fail
  refine (rvalid_is ha hx _).mono ?_
  rintro e W ⟨rfl, rfl⟩
  go_wp2_with fail
  refine (rvalid_is hb hy _).mono ?_
  rintro e W ⟨rfl, rfl⟩
  go_wp2_with fail
  refine (rdigits_any ha hx _).mono ?_
  rintro e W ⟨A1, n1, c1, rfl, D1, hb1⟩
  go_wp2_with fail
  refine (rdigits_any hb hy _).mono ?_
  rintro e W ⟨A2, n2, c2, rfl, D2, hb2⟩
  have hB := hb1.trans (hb2.mono hb1.size)
  have D1' := D1.below hb2
  clear D1 hb1 hb2
  generalize decide (x < 0) = dx at *
  generalize decide (y < 0) = dy at *
  go_wp2_with fail
  refine (rsum_any dx dy A1 A2 n1 c1 n2 c2 _ _ z _ hs D1' D2 hX hY).mono ?_
  rintro e W9 ⟨rfl, hb9⟩
  go_wp2
  refine bodyPost_ret (v := .tuple #[.string ⟨(tText z).toArray⟩, .int .i64 (tErr z)]) ?res rfl ⟨rfl, hB.trans (hb9.mono hB.size)⟩
  case res => simp [results, Tryz.f188, go_sem]
set_option maxRecDepth 100000 in
set_option maxHeartbeats 2000000 in
theorem rsub_any {a b : ByteArray} {x y z : Int} (ha : Is a x) (hb : Is b y) (hz : Hid (x - y = z)) (hx : Fits x) (hy : Fits y) (w : World) :
    Calls Tryz.prog 116 #[.string a, .string b] w (ChkOk z w) := by
  have sx := sv_abs x
  have sy := sv_abs y
  have hX : Hid (x.natAbs < 10 ^ 200) := hx
  have hY : Hid (y.natAbs < 10 ^ 200) := hy
  have sy' : sv (!decide (y < 0)) y.natAbs = -y := by
    generalize decide (y < 0) = d at *
    cases d <;> simp [sv] at * <;> omega
  have hs : Hid (sv (decide (x < 0)) x.natAbs + sv (!decide (y < 0)) y.natAbs = z) := Lib.hid (by rw [sx, sy', ← Int.sub_eq_add_neg]; exact hz.out)
  clear sx sy sy'
  go_enter Tryz.func116, Tryz.ntmps116
  go_wp2_with fail
  refine (rvalid_is ha hx _).mono ?_
  rintro e W ⟨rfl, rfl⟩
  go_wp2_with fail
  refine (rvalid_is hb hy _).mono ?_
  rintro e W ⟨rfl, rfl⟩
  go_wp2_with fail
  refine (rdigits_any ha hx _).mono ?_
  rintro e W ⟨A1, n1, c1, rfl, D1, hb1⟩
  go_wp2_with fail
  refine (rdigits_any hb hy _).mono ?_
  rintro e W ⟨A2, n2, c2, rfl, D2, hb2⟩
  have hB := hb1.trans (hb2.mono hb1.size)
  have D1' := D1.below hb2
  clear D1 hb1 hb2
  generalize decide (x < 0) = dx at *
  generalize decide (y < 0) = dy at *
  go_wp2_with fail
  refine (rsum_any dx (!dy) A1 A2 n1 c1 n2 c2 _ _ z _ hs D1' D2 hX hY).mono ?_
  rintro e W9 ⟨rfl, hb9⟩
  go_wp2
  refine bodyPost_ret (v := .tuple #[.string ⟨(tText z).toArray⟩, .int .i64 (tErr z)]) ?res rfl ⟨rfl, hB.trans (hb9.mono hB.size)⟩
  case res => simp [results, Tryz.f116, go_sem]
set_option maxRecDepth 100000 in
set_option maxHeartbeats 2000000 in
theorem rmul_any {a b : ByteArray} {x y z : Int} (ha : Is a x) (hb : Is b y) (hz : Hid (x * y = z)) (hx : Fits x) (hy : Fits y) (w : World) :
    Calls Tryz.prog 203 #[.string a, .string b] w (ChkOk z w) := by
  have sx := sv_abs x
  have sy := sv_abs y
  have hX : Hid (x.natAbs < 10 ^ 200) := hx
  have hY : Hid (y.natAbs < 10 ^ 200) := hy
  have hs : Hid (sv (decide (x < 0) != decide (y < 0)) (x.natAbs * y.natAbs) = z) := Lib.hid (by rw [sv_mul]; exact hz.out)
  clear sx sy
  go_enter Tryz.func203, Tryz.ntmps203
  go_wp2_with fail
  refine (rvalid_is ha hx _).mono ?_
  rintro e W ⟨rfl, rfl⟩
  go_wp2_with fail
  refine (rvalid_is hb hy _).mono ?_
  rintro e W ⟨rfl, rfl⟩
  go_wp2_with fail
  refine (rdigits_any ha hx _).mono ?_
  rintro e W ⟨A1, n1, c1, rfl, D1, hb1⟩
  go_wp2_with fail
  refine (rdigits_any hb hy _).mono ?_
  rintro e W ⟨A2, n2, c2, rfl, D2, hb2⟩
  have hB := hb1.trans (hb2.mono hb1.size)
  have D1' := D1.below hb2
  clear D1 hb1 hb2
  have L1 := D1'.le hX.out
  have L2 := D2.le hY.out
  generalize decide (x < 0) = dx at *
  generalize decide (y < 0) = dy at *
  go_wp2_with fail
  refine (rtimes_any A1 A2 n1 c1 n2 c2 _ _ _ D1' D2 (by omega) (by omega)).mono ?_
  rintro e W8 ⟨A3, n3, c3, rfl, h3, hb8, _⟩
  have hB8 := hB.trans (hb8.mono hB.size)
  have L3 := h3.len400 L1 L2 D1' D2 hb8
  cases dx <;> cases dy
  all_goals go_wp2_with fail
  · refine (rchecked_any false hs _ h3 (by omega)).mono ?_
    rintro e W9 ⟨rfl, hb9⟩
    go_wp2
    refine bodyPost_ret (v := .tuple #[.string ⟨(tText z).toArray⟩, .int .i64 (tErr z)]) ?res rfl ⟨rfl, hB8.trans (hb9.mono hB8.size)⟩
    case res => simp [results, Tryz.f203, go_sem]
  · refine (rchecked_any true hs _ h3 (by omega)).mono ?_
    rintro e W9 ⟨rfl, hb9⟩
    go_wp2
    refine bodyPost_ret (v := .tuple #[.string ⟨(tText z).toArray⟩, .int .i64 (tErr z)]) ?res rfl ⟨rfl, hB8.trans (hb9.mono hB8.size)⟩
    case res => simp [results, Tryz.f203, go_sem]
  · refine (rchecked_any true hs _ h3 (by omega)).mono ?_
    rintro e W9 ⟨rfl, hb9⟩
    go_wp2
    refine bodyPost_ret (v := .tuple #[.string ⟨(tText z).toArray⟩, .int .i64 (tErr z)]) ?res rfl ⟨rfl, hB8.trans (hb9.mono hB8.size)⟩
    case res => simp [results, Tryz.f203, go_sem]
  · refine (rchecked_any false hs _ h3 (by omega)).mono ?_
    rintro e W9 ⟨rfl, hb9⟩
    go_wp2
    refine bodyPost_ret (v := .tuple #[.string ⟨(tText z).toArray⟩, .int .i64 (tErr z)]) ?res rfl ⟨rfl, hB8.trans (hb9.mono hB8.size)⟩
    case res => simp [results, Tryz.f203, go_sem]
end Go.Proofs.YtngohpgkceedeaaGreatDoor
