/-
  The exported functions, over strings: products, order, conversions.
-/
import Derived.Test.YtnfkibgoockmpaaGreatDoorStr
namespace Go.Proofs.YtnfkibgoockmpaaGreatDoor
open Go Go.RowKit Go.Lib Go.Shelf

theorem valid_any (s : ByteArray) (w : World) (hs : Str s) :
    Calls Tryz.prog 19 #[.string s] w fun e w' => e = .returned (.bool (validB s.data.toList)) ∧ Below w.heap.size w w' := by
  go_enter Tryz.func19, Tryz.ntmps19
  go_wp2_with (go_at_call 47; go_must (refine (isValid_any s _ hs).mono ?_; rintro e w1 ⟨rfl, hb1⟩))
  go_ret
  exact ⟨rfl, hb1⟩
theorem fromInt_any (n : Int) (h0 : -9223372036854775808 ≤ n) (h1 : n ≤ 9223372036854775807) (w : World) (ht : Tab w) :
    Calls Tryz.prog 35 #[.int .i64 n] w fun e w' => e = .returned (.string ⟨(itoa n).toArray⟩) ∧ Below w.heap.size w w' := by
  go_enter Tryz.func35, Tryz.ntmps35
  go_wp2_with (go_at_call 58; go_must (refine (Tryz.strconv_Itoa n h0 h1 _ ht).mono ?_; rintro e w1 ⟨rfl, k, os, rfl⟩))
  go_ret
  exact ⟨rfl, below_grown_sl _ _ _ _ (Nat.le_refl _)⟩
theorem two_new2 (w : World) (u v : Array Value) (t : TypeId) : ((w.alloc (.cells u t)).alloc (.cells v t)).heap[w.heap.size]? = some (.cells u t (0, 0)) ∧ ((w.alloc (.cells u t)).alloc (.cells v t)).heap[w.heap.size + 1]? = some (.cells v t (0, 0)) := by
  constructor
  · rw [Below.heap_alloc _ _ _ (by simp)]
    exact heap_alloc_new _ _
  · have : w.heap.size + 1 = (w.alloc (.cells u t)).heap.size := by simp
    rw [this]
    exact heap_alloc_new _ _
theorem sv_mul (x y : Int) : sv (decide (x < 0) != decide (y < 0)) (x.natAbs * y.natAbs) = x * y := by
  have hx := sv_abs x
  have hy := sv_abs y
  have e : ((x.natAbs * y.natAbs : Nat) : Int) = (x.natAbs : Int) * (y.natAbs : Int) := by simp
  conv => rhs; rw [← hx, ← hy]
  generalize decide (x < 0) = a
  generalize decide (y < 0) = b
  cases a <;> cases b <;> simp [sv, e, Int.neg_mul, Int.mul_neg]
theorem mul_lt {x y : Int} (hx : Fits x) (hy : Fits y) : x.natAbs < 10000 ^ 250 ∧ y.natAbs < 10000 ^ 250 ∧ x.natAbs * y.natAbs < 10000 ^ 250 := by
  have h2 : (10 : Nat) ^ 200 * 10 ^ 200 ≤ 10000 ^ 250 := by decide +kernel
  have h3 : (10 : Nat) ^ 200 ≤ 10000 ^ 250 := by decide +kernel
  have h4 : x.natAbs * y.natAbs ≤ 10 ^ 200 * y.natAbs := Nat.mul_le_mul_right _ (Nat.le_of_lt hx)
  have h5 : 10 ^ 200 * y.natAbs < 10 ^ 200 * 10 ^ 200 := Nat.mul_lt_mul_of_pos_left hy (Nat.pow_pos (by decide))
  exact ⟨Nat.lt_of_lt_of_le hx h3, Nat.lt_of_lt_of_le hy h3, Nat.lt_of_lt_of_le (Nat.lt_of_le_of_lt h4 h5) h2⟩
set_option maxRecDepth 100000 in
set_option maxHeartbeats 1000000 in
theorem mul_ok (a b : ByteArray) (x y : Int) (w : World) (ht : Tab w) (ha : a.data.toList = itoa x) (hb : b.data.toList = itoa y) (hx : Fits x) (hy : Fits y) (hsa : Str a) (hsb : Str b) :
    Calls Tryz.prog 15 #[.string a, .string b] w fun e w' => e = .returned (.tuple #[.string ⟨(tText (x * y)).toArray⟩, .int .i64 (tErr (x * y))]) ∧ Below w.heap.size w w' := by
  obtain ⟨lx, ly, lxy⟩ := mul_lt hx hy
  have hsm := sv_mul x y
  have LX := Lib.hid lx
  have LY := Lib.hid ly
  have LXY := Lib.hid lxy
  clear lx ly lxy
  go_enter Tryz.func15, Tryz.ntmps15
  go_wp2_with (first
    | (go_at_call 38; go_must (refine (both_ok a b x y _ ha hb hx hy hsa hsb).mono ?_; rintro e w1 ⟨u, v, rfl, ⟨A1, n1, k1, rfl, hu⟩, ⟨A2, n2, k2, rfl, hv⟩, hb1⟩; generalize decide (x < 0) = dx at *; generalize decide (y < 0) = dy at *)))
  obtain ⟨m0, m1⟩ := two_new2 w1 #[.bool dx, .slice A1 n1 k1] #[.bool dy, .slice A2 n2 k2] 50
  have hb2 := below2 w1 (.cells #[.bool dx, .slice A1 n1 k1] 50) (.cells #[.bool dy, .slice A2 n2 k2] 50)
  have hu2 := hu.below hb2
  have hv2 := hv.below hb2
  have hB := hb1.trans (hb2.mono hb1.size)
  generalize ((w1.alloc (.cells #[.bool dx, .slice A1 n1 k1] 50)).alloc (.cells #[.bool dy, .slice A2 n2 k2] 50)) = V at *
  obtain ⟨c1, c2, _, _⟩ := two_facts m0
  obtain ⟨c3, c4, _, _⟩ := two_facts m1
  go_region_held3 (fun X => X.cell? ⟨w1.heap.size, 0, none⟩ = some (.bool dx) ∧ X.cell? ⟨w1.heap.size, 1, none⟩ = some (.slice A1 n1 k1) ∧ X.cell? ⟨w1.heap.size + 1, 0, none⟩ = some (.bool dy) ∧ X.cell? ⟨w1.heap.size + 1, 1, none⟩ = some (.slice A2 n2 k2)) (first | exact ⟨c1, c2, c3, c4⟩ | exact ⟨d1, d2, d3, d4⟩ | exact ⟨e1, e2, e3, e4⟩) (first
    | (go_at_call 41; refine (times_any A1 A2 n1 k1 n2 k2 x.natAbs y.natAbs _ (by exact hu2) (by exact hv2) LX.out LY.out).mono ?_; rintro e W2 ⟨A3, n3, k3, rfl, h3, hb3'⟩; have hb3 := below_of_drew hb3'; have g0 := (hb3.block _ (Array.getElem?_eq_some_iff.1 m0).1).trans m0; have g1 := (hb3.block _ (Array.getElem?_eq_some_iff.1 m1).1).trans m1; obtain ⟨d1, d2, _, _⟩ := two_facts g0; obtain ⟨d3, d4, _, _⟩ := two_facts g1; have hB2 := hB.trans (hb3.mono hB.size))
    | (go_at_call 40; refine (text_any _ (dx != dy) (x.natAbs * y.natAbs) _ ⟨A3, n3, k3, rfl, h3⟩ LXY.out (ht.below hB2)).mono ?_; rintro e W3 ⟨rfl, hb4⟩; rw [hsm]; have q0 := (hb4.block _ (Array.getElem?_eq_some_iff.1 g0).1).trans g0; have q1 := (hb4.block _ (Array.getElem?_eq_some_iff.1 g1).1).trans g1; obtain ⟨e1, e2, _, _⟩ := two_facts q0; obtain ⟨e3, e4, _, _⟩ := two_facts q1))
  go_wp2
  refine bodyPost_ret (v := .tuple #[.string ⟨(tText (x * y)).toArray⟩, .int .i64 (tErr (x * y))]) ?res rfl ⟨rfl, hB2.trans (hb4.mono hB2.size)⟩
  case res => simp [results, Tryz.f15, go_sem]

set_option maxRecDepth 100000 in
set_option maxHeartbeats 1000000 in
theorem compare_bad (a b : ByteArray) (w : World) (hv : (validB a.data.toList && validB b.data.toList) = false) (hsa : Str a) (hsb : Str b) :
    Calls Tryz.prog 18 #[.string a, .string b] w fun e w' => e = .returned (.int .i64 0) ∧ Below w.heap.size w w' := by
  go_enter Tryz.func18, Tryz.ntmps18
  go_wp2_with (go_at_call 38; go_must (refine (both_bad a b _ hv hsa hsb).mono ?_; rintro e w1 ⟨rfl, hb1⟩))
  go_ret
  exact ⟨rfl, hb1.trans ((below2 w1 _ _).mono hb1.size)⟩
set_option maxRecDepth 100000 in
set_option maxHeartbeats 1000000 in
theorem compare_ok (a b : ByteArray) (x y : Int) (w : World) (ha : a.data.toList = itoa x) (hb : b.data.toList = itoa y) (hx : Fits x) (hy : Fits y) (hsa : Str a) (hsb : Str b) :
    Calls Tryz.prog 18 #[.string a, .string b] w fun e w' => e = .returned (.int .i64 (cmpZ x y)) ∧ Below w.heap.size w w' := by
  have mx := fits_mod hx
  have my := fits_mod hy
  have hc1 : 0 ≤ x → 0 ≤ y → cmpZ (x.natAbs : Int) (y.natAbs : Int) = cmpZ x y := fun h1 h2 => by rw [show (x.natAbs : Int) = x by omega, show (y.natAbs : Int) = y by omega]
  have hc2 : x < 0 → y < 0 → cmpZ (y.natAbs : Int) (x.natAbs : Int) = cmpZ x y := fun h1 h2 => by unfold cmpZ; split <;> split <;> first | rfl | omega | (split <;> first | rfl | omega | (split <;> first | rfl | omega))
  have hc3 : x < 0 → ¬ y < 0 → cmpZ x y = -1 := fun h1 h2 => by unfold cmpZ; rw [if_pos (by omega)]
  have hc4 : ¬ x < 0 → y < 0 → cmpZ x y = 1 := fun h1 h2 => by unfold cmpZ; rw [if_neg (by omega), if_pos (by omega)]
  by_cases h1 : x < 0 <;> by_cases h2 : y < 0
  all_goals have hbo := both_ok a b x y w ha hb hx hy hsa hsb
  · rw [decide_eq_true h1, decide_eq_true h2] at hbo
    rw [← hc2 h1 h2]
    clear hc1 hc2 hc3 hc4
    go_enter Tryz.func18, Tryz.ntmps18
    go_wp2_with (first
      | (go_at_call 38; go_must (refine hbo.mono ?_; rintro e w1 ⟨u, v, rfl, ⟨A1, n1, k1, rfl, hu⟩, ⟨A2, n2, k2, rfl, hv⟩, hb1⟩))
      | (go_at_call 46; go_must (refine (compare_any A2 A1 n2 k2 n1 k1 _ _ _ (hv.below (below2 w1 _ _)) (hu.below (below2 w1 _ _)) my mx).mono ?_; rintro e w2 ⟨rfl, hb2⟩)))
    go_ret
    exact ⟨rfl, hb1.trans (((below2 w1 _ _).trans (hb2.mono (below2 w1 _ _).size)).mono hb1.size)⟩
  · rw [decide_eq_true h1, decide_eq_false h2] at hbo
    rw [hc3 h1 h2]
    clear hc1 hc2 hc3 hc4
    go_enter Tryz.func18, Tryz.ntmps18
    go_wp2_with (go_at_call 38; go_must (refine hbo.mono ?_; rintro e w1 ⟨u, v, rfl, ⟨A1, n1, k1, rfl, hu⟩, ⟨A2, n2, k2, rfl, hv⟩, hb1⟩))
    go_ret
    exact ⟨rfl, hb1.trans ((below2 w1 _ _).mono hb1.size)⟩
  · rw [decide_eq_false h1, decide_eq_true h2] at hbo
    rw [hc4 h1 h2]
    clear hc1 hc2 hc3 hc4
    go_enter Tryz.func18, Tryz.ntmps18
    go_wp2_with (go_at_call 38; go_must (refine hbo.mono ?_; rintro e w1 ⟨u, v, rfl, ⟨A1, n1, k1, rfl, hu⟩, ⟨A2, n2, k2, rfl, hv⟩, hb1⟩))
    go_ret
    exact ⟨rfl, hb1.trans ((below2 w1 _ _).mono hb1.size)⟩
  · rw [decide_eq_false h1, decide_eq_false h2] at hbo
    rw [← hc1 (by omega) (by omega)]
    clear hc1 hc2 hc3 hc4
    go_enter Tryz.func18, Tryz.ntmps18
    go_wp2_with (first
      | (go_at_call 38; go_must (refine hbo.mono ?_; rintro e w1 ⟨u, v, rfl, ⟨A1, n1, k1, rfl, hu⟩, ⟨A2, n2, k2, rfl, hv⟩, hb1⟩))
      | (go_at_call 46; go_must (refine (compare_any A1 A2 n1 k1 n2 k2 _ _ _ (hu.below (below2 w1 _ _)) (hv.below (below2 w1 _ _)) mx my).mono ?_; rintro e w2 ⟨rfl, hb2⟩)))
    go_ret
    exact ⟨rfl, hb1.trans (((below2 w1 _ _).trans (hb2.mono (below2 w1 _ _).size)).mono hb1.size)⟩
end Go.Proofs.YtnfkibgoockmpaaGreatDoor
