/-
  The exported functions, over strings.
-/
import Derived.BigQuiet
import Derived.Deep.QuietTactic
import Derived.Test.YtngohpgkceedeaaGreatDoorWText
namespace Go.Proofs.YtngohpgkceedeaaGreatDoor
open Go Go.RowKit Go.Lib Go.Shelf

/-- The table that Itoa reads. -/
abbrev Tab (w : World) : Prop := Lib.TabIs Tryz.prog w "internal/strconv.uint64pow10" .u64 Lib.pow10Tab
theorem Tab.below {w w' : World} (h : Tab w) (hb : Below w.heap.size w w') : Tab w' := tabBelow_of_tabIs h w' hb
/-- A string within a string's bound. -/
abbrev Str (a : ByteArray) : Prop := a.size ≤ 9223372036854775807
theorem fits_mod {x : Int} (h : Fits x) : Mod x.natAbs := by
  refine mod_of_pow (K := 250) (Nat.lt_of_lt_of_le h ?_) (by decide)
  decide +kernel
theorem sum_lt {z : Nat} {neg : Bool} {x y : Int} (hx : Fits x) (hy : Fits y) (h : sv neg z = x + y) : z < 10000 ^ 250 := by
  have h1 : z = (x + y).natAbs := by rw [← h]; cases neg <;> simp [sv]
  have h2 : (10 : Nat) ^ 200 + 10 ^ 200 ≤ 10000 ^ 250 := by decide +kernel
  unfold Fits at hx hy
  generalize (10 : Nat) ^ 200 = T at *
  generalize (10000 : Nat) ^ 250 = U at *
  omega

set_option maxRecDepth 100000 in
set_option maxHeartbeats 1000000 in
theorem add_ok (a b : ByteArray) (x y : Int) (w : World) (ht : Tab w) (ha : a.data.toList = itoa x) (hb : b.data.toList = itoa y) (hx : Fits x) (hy : Fits y) (hsa : Str a) (hsb : Str b) :
    Calls Tryz.prog 78 #[.string a, .string b] w fun e w' => e = .returned (.tuple #[.string ⟨(tText (x + y)).toArray⟩, .int .i64 (tErr (x + y))]) ∧ Below w.heap.size w w' := by
  have mx := fits_mod hx
  have my := fits_mod hy
  have hsl := fun (z : Nat) (neg : Bool) (h : sv neg z = x + y) => sum_lt hx hy h
  have ax := sv_abs x
  have ay := sv_abs y
  go_enter Tryz.func78, Tryz.ntmps78
  go_wp2_with (first
    | (go_at_call 121; go_must (refine (both_ok a b x y _ ha hb hx hy hsa hsb).mono ?_; rintro e w1 ⟨u, v, rfl, ⟨A1, n1, k1, rfl, hu⟩, ⟨A2, n2, k2, rfl, hv⟩, hb1⟩))
    | (go_at_call 137; go_must (refine (splus_any _ _ _ _ _ _ _ ⟨A1, n1, k1, rfl, hu.below (below2 w1 _ _)⟩ ⟨A2, n2, k2, rfl, hv.below (below2 w1 _ _)⟩ mx my).mono ?_; rintro e w2 ⟨r, nr, z, rfl, hr, hz, hb2⟩; rw [ax, ay] at hz; have hb12 : Below w.heap.size w w2 := hb1.trans (((below2 w1 _ _).trans (hb2.mono (below2 w1 _ _).size)).mono hb1.size)))
    | (go_at_call 126; go_must (refine (text_any r nr z _ hr (hsl z nr hz) (ht.below hb12)).mono ?_; rintro e w3 ⟨rfl, hb3⟩; rw [hz])))
  go_wp2
  refine bodyPost_ret (v := .tuple #[.string ⟨(tText (x + y)).toArray⟩, .int .i64 (tErr (x + y))]) ?res rfl ⟨rfl, hb12.trans (hb3.mono hb12.size)⟩
  case res => simp [results, Tryz.f78, go_sem]

set_option maxRecDepth 100000 in
set_option maxHeartbeats 1000000 in
theorem sub_ok (a b : ByteArray) (x y : Int) (w : World) (ht : Tab w) (ha : a.data.toList = itoa x) (hb : b.data.toList = itoa y) (hx : Fits x) (hy : Fits y) (hsa : Str a) (hsb : Str b) :
    Calls Tryz.prog 71 #[.string a, .string b] w fun e w' => e = .returned (.tuple #[.string ⟨(tText (x - y)).toArray⟩, .int .i64 (tErr (x - y))]) ∧ Below w.heap.size w w' := by
  have mx := fits_mod hx
  have my := fits_mod hy
  have hsl := fun (z : Nat) (neg : Bool) (h : sv neg z = x - y) => sum_lt hx (y := -y) (by unfold Fits at *; rwa [Int.natAbs_neg]) h
  have ax := sv_abs x
  have ay : sv (!decide (y < 0)) y.natAbs = -y := by
    have := sv_abs y
    generalize decide (y < 0) = d at *
    cases d <;> simp [sv] at * <;> omega
  go_enter Tryz.func71, Tryz.ntmps71
  go_wp2_with (first
    | (go_at_call 121; go_must (refine (both_ok a b x y _ ha hb hx hy hsa hsb).mono ?_; rintro e w1 ⟨u, v, rfl, ⟨A1, n1, k1, rfl, hu⟩, ⟨A2, n2, k2, rfl, hv⟩, hb1⟩; generalize decide (y < 0) = dy at *))
    | (go_at_call 137; go_must (refine (splus_any _ _ _ _ _ _ _ ⟨A1, n1, k1, rfl, hu.below (below2 w1 _ _)⟩ ⟨A2, n2, k2, rfl, hv.below (below2 w1 _ _)⟩ mx my).mono ?_; rintro e w2 ⟨r, nr, z, rfl, hr, hz, hb2⟩; rw [ax, ay, ← Int.sub_eq_add_neg] at hz; have hb12 : Below w.heap.size w w2 := hb1.trans (((below2 w1 _ _).trans (hb2.mono (below2 w1 _ _).size)).mono hb1.size)))
    | (go_at_call 126; go_must (refine (text_any r nr z _ hr (hsl z nr hz) (ht.below hb12)).mono ?_; rintro e w3 ⟨rfl, hb3⟩; rw [hz])))
  go_wp2
  refine bodyPost_ret (v := .tuple #[.string ⟨(tText (x - y)).toArray⟩, .int .i64 (tErr (x - y))]) ?res rfl ⟨rfl, hb12.trans (hb3.mono hb12.size)⟩
  case res => simp [results, Tryz.f71, go_sem]

end Go.Proofs.YtngohpgkceedeaaGreatDoor

namespace Go.Proofs.YtngohpgkceedeaaGreatDoor
open Go Go.RowKit Go.Lib Go.Shelf

theorem valid_any (s : ByteArray) (w : World) (hs : Str s) :
    Calls Tryz.prog 119 #[.string s] w fun e w' => e = .returned (.bool (validB s.data.toList)) ∧ Below w.heap.size w w' := by
  go_enter Tryz.func119, Tryz.ntmps119
  go_wp2_with (go_at_call 167; go_must (refine (isValid_any s _ hs).mono ?_; rintro e w1 ⟨rfl, hb1⟩))
  go_ret
  exact ⟨rfl, hb1⟩
theorem two_new2 (w : World) (u v : Array Value) (t : TypeId) : ((w.alloc (.cells u t)).alloc (.cells v t)).heap[w.heap.size]? = some (.cells u t (0, 0)) ∧ ((w.alloc (.cells u t)).alloc (.cells v t)).heap[w.heap.size + 1]? = some (.cells v t (0, 0)) := by
  constructor
  · rw [Below.heap_alloc _ _ _ (by simp)]
    exact heap_alloc_new _ _
  · have : w.heap.size + 1 = (w.alloc (.cells u t)).heap.size := by simp
    rw [this]
    exact heap_alloc_new _ _
theorem sv_mul (x y : Int) : sv (decide (x < 0) != decide (y < 0)) (x.natAbs * y.natAbs) = x * y := by
  have hx := sv_abs x
  have hy := sv_abs y
  have e : ((x.natAbs * y.natAbs : Nat) : Int) = (x.natAbs : Int) * (y.natAbs : Int) := by simp
  conv => rhs; rw [← hx, ← hy]
  generalize decide (x < 0) = a
  generalize decide (y < 0) = b
  cases a <;> cases b <;> simp [sv, e, Int.neg_mul, Int.mul_neg]
theorem mul_lt {x y : Int} (hx : Fits x) (hy : Fits y) : x.natAbs < 10000 ^ 250 ∧ y.natAbs < 10000 ^ 250 ∧ x.natAbs * y.natAbs < 10000 ^ 250 := by
  have h2 : (10 : Nat) ^ 200 * 10 ^ 200 ≤ 10000 ^ 250 := by decide +kernel
  have h3 : (10 : Nat) ^ 200 ≤ 10000 ^ 250 := by decide +kernel
  have h4 : x.natAbs * y.natAbs ≤ 10 ^ 200 * y.natAbs := Nat.mul_le_mul_right _ (Nat.le_of_lt hx)
  have h5 : 10 ^ 200 * y.natAbs < 10 ^ 200 * 10 ^ 200 := Nat.mul_lt_mul_of_pos_left hy (Nat.pow_pos (by decide))
  exact ⟨Nat.lt_of_lt_of_le hx h3, Nat.lt_of_lt_of_le hy h3, Nat.lt_of_lt_of_le (Nat.lt_of_le_of_lt h4 h5) h2⟩
set_option maxRecDepth 100000 in
set_option maxHeartbeats 1000000 in
theorem mul_ok (a b : ByteArray) (x y : Int) (w : World) (ht : Tab w) (ha : a.data.toList = itoa x) (hb : b.data.toList = itoa y) (hx : Fits x) (hy : Fits y) (hsa : Str a) (hsb : Str b) :
    Calls Tryz.prog 135 #[.string a, .string b] w fun e w' => e = .returned (.tuple #[.string ⟨(tText (x * y)).toArray⟩, .int .i64 (tErr (x * y))]) ∧ Below w.heap.size w w' := by
  obtain ⟨lx, ly, lxy⟩ := mul_lt hx hy
  have hsm := sv_mul x y
  have LX := Lib.hid lx
  have LY := Lib.hid ly
  have LXY := Lib.hid lxy
  clear lx ly lxy
  go_enter Tryz.func135, Tryz.ntmps135
  go_wp2_with (first
    | (go_at_call 121; go_must (refine (both_ok a b x y _ ha hb hx hy hsa hsb).mono ?_; rintro e w1 ⟨u, v, rfl, ⟨A1, n1, k1, rfl, hu⟩, ⟨A2, n2, k2, rfl, hv⟩, hb1⟩; generalize decide (x < 0) = dx at *; generalize decide (y < 0) = dy at *)))
  obtain ⟨m0, m1⟩ := two_new2 w1 #[.bool dx, .slice A1 n1 k1] #[.bool dy, .slice A2 n2 k2] 137
  have hb2 := below2 w1 (.cells #[.bool dx, .slice A1 n1 k1] 137) (.cells #[.bool dy, .slice A2 n2 k2] 137)
  have hu2 := hu.below hb2
  have hv2 := hv.below hb2
  have hB := hb1.trans (hb2.mono hb1.size)
  generalize ((w1.alloc (.cells #[.bool dx, .slice A1 n1 k1] 137)).alloc (.cells #[.bool dy, .slice A2 n2 k2] 137)) = V at *
  obtain ⟨c1, c2, _, _⟩ := two_facts m0
  obtain ⟨c3, c4, _, _⟩ := two_facts m1
  go_region_held3 (fun X => X.cell? ⟨w1.heap.size, 0, none⟩ = some (.bool dx) ∧ X.cell? ⟨w1.heap.size, 1, none⟩ = some (.slice A1 n1 k1) ∧ X.cell? ⟨w1.heap.size + 1, 0, none⟩ = some (.bool dy) ∧ X.cell? ⟨w1.heap.size + 1, 1, none⟩ = some (.slice A2 n2 k2)) (first | exact ⟨c1, c2, c3, c4⟩ | exact ⟨d1, d2, d3, d4⟩ | exact ⟨e1, e2, e3, e4⟩) (first
    | (go_at_call 184; refine (times_any A1 A2 n1 k1 n2 k2 x.natAbs y.natAbs _ (by exact hu2) (by exact hv2) LX.out LY.out).mono ?_; rintro e W2 ⟨A3, n3, k3, rfl, h3, hb3'⟩; have hb3 := below_of_drew hb3'; have g0 := (hb3.block _ (Array.getElem?_eq_some_iff.1 m0).1).trans m0; have g1 := (hb3.block _ (Array.getElem?_eq_some_iff.1 m1).1).trans m1; obtain ⟨d1, d2, _, _⟩ := two_facts g0; obtain ⟨d3, d4, _, _⟩ := two_facts g1; have hB2 := hB.trans (hb3.mono hB.size))
    | (go_at_call 126; refine (text_any _ (dx != dy) (x.natAbs * y.natAbs) _ ⟨A3, n3, k3, rfl, h3⟩ LXY.out (ht.below hB2)).mono ?_; rintro e W3 ⟨rfl, hb4⟩; rw [hsm]; have q0 := (hb4.block _ (Array.getElem?_eq_some_iff.1 g0).1).trans g0; have q1 := (hb4.block _ (Array.getElem?_eq_some_iff.1 g1).1).trans g1; obtain ⟨e1, e2, _, _⟩ := two_facts q0; obtain ⟨e3, e4, _, _⟩ := two_facts q1))
  go_wp2
  refine bodyPost_ret (v := .tuple #[.string ⟨(tText (x * y)).toArray⟩, .int .i64 (tErr (x * y))]) ?res rfl ⟨rfl, hB2.trans (hb4.mono hB2.size)⟩
  case res => simp [results, Tryz.f135, go_sem]

set_option maxRecDepth 100000 in
set_option maxHeartbeats 1000000 in
theorem compare_ok (a b : ByteArray) (x y : Int) (w : World) (ha : a.data.toList = itoa x) (hb : b.data.toList = itoa y) (hx : Fits x) (hy : Fits y) (hsa : Str a) (hsb : Str b) :
    Calls Tryz.prog 60 #[.string a, .string b] w fun e w' => e = .returned (.int .i64 (cmpZ x y)) ∧ Below w.heap.size w w' := by
  have mx := fits_mod hx
  have my := fits_mod hy
  have hc1 : 0 ≤ x → 0 ≤ y → cmpZ (x.natAbs : Int) (y.natAbs : Int) = cmpZ x y := fun h1 h2 => by rw [show (x.natAbs : Int) = x by omega, show (y.natAbs : Int) = y by omega]
  have hc2 : x < 0 → y < 0 → cmpZ (y.natAbs : Int) (x.natAbs : Int) = cmpZ x y := fun h1 h2 => by unfold cmpZ; split <;> split <;> first | rfl | omega | (split <;> first | rfl | omega | (split <;> first | rfl | omega))
  have hc3 : x < 0 → ¬ y < 0 → cmpZ x y = -1 := fun h1 h2 => by unfold cmpZ; rw [if_pos (by omega)]
  have hc4 : ¬ x < 0 → y < 0 → cmpZ x y = 1 := fun h1 h2 => by unfold cmpZ; rw [if_neg (by omega), if_pos (by omega)]
  by_cases h1 : x < 0 <;> by_cases h2 : y < 0
  all_goals have hbo := both_ok a b x y w ha hb hx hy hsa hsb
  · rw [decide_eq_true h1, decide_eq_true h2] at hbo
    rw [← hc2 h1 h2]
    clear hc1 hc2 hc3 hc4
    go_enter Tryz.func60, Tryz.ntmps60
    go_wp2_with (first
      | (go_at_call 121; go_must (refine hbo.mono ?_; rintro e w1 ⟨u, v, rfl, ⟨A1, n1, k1, rfl, hu⟩, ⟨A2, n2, k2, rfl, hv⟩, hb1⟩))
      | (go_at_call 127; go_must (refine (compare_any A2 A1 n2 k2 n1 k1 _ _ _ (hv.below (below2 w1 _ _)) (hu.below (below2 w1 _ _)) my mx).mono ?_; rintro e w2 ⟨rfl, hb2⟩)))
    go_ret
    exact ⟨rfl, hb1.trans (((below2 w1 _ _).trans (hb2.mono (below2 w1 _ _).size)).mono hb1.size)⟩
  · rw [decide_eq_true h1, decide_eq_false h2] at hbo
    rw [hc3 h1 h2]
    clear hc1 hc2 hc3 hc4
    go_enter Tryz.func60, Tryz.ntmps60
    go_wp2_with (go_at_call 121; go_must (refine hbo.mono ?_; rintro e w1 ⟨u, v, rfl, ⟨A1, n1, k1, rfl, hu⟩, ⟨A2, n2, k2, rfl, hv⟩, hb1⟩))
    go_ret
    exact ⟨rfl, hb1.trans ((below2 w1 _ _).mono hb1.size)⟩
  · rw [decide_eq_false h1, decide_eq_true h2] at hbo
    rw [hc4 h1 h2]
    clear hc1 hc2 hc3 hc4
    go_enter Tryz.func60, Tryz.ntmps60
    go_wp2_with (go_at_call 121; go_must (refine hbo.mono ?_; rintro e w1 ⟨u, v, rfl, ⟨A1, n1, k1, rfl, hu⟩, ⟨A2, n2, k2, rfl, hv⟩, hb1⟩))
    go_ret
    exact ⟨rfl, hb1.trans ((below2 w1 _ _).mono hb1.size)⟩
  · rw [decide_eq_false h1, decide_eq_false h2] at hbo
    rw [← hc1 (by omega) (by omega)]
    clear hc1 hc2 hc3 hc4
    go_enter Tryz.func60, Tryz.ntmps60
    go_wp2_with (first
      | (go_at_call 121; go_must (refine hbo.mono ?_; rintro e w1 ⟨u, v, rfl, ⟨A1, n1, k1, rfl, hu⟩, ⟨A2, n2, k2, rfl, hv⟩, hb1⟩))
      | (go_at_call 127; go_must (refine (compare_any A1 A2 n1 k1 n2 k2 _ _ _ (hu.below (below2 w1 _ _)) (hv.below (below2 w1 _ _)) mx my).mono ?_; rintro e w2 ⟨rfl, hb2⟩)))
    go_ret
    exact ⟨rfl, hb1.trans (((below2 w1 _ _).trans (hb2.mono (below2 w1 _ _).size)).mono hb1.size)⟩
end Go.Proofs.YtngohpgkceedeaaGreatDoor

namespace Go.Proofs.YtngohpgkceedeaaGreatDoor
open Go Go.RowKit Go.Lib Go.Shelf

theorem IsNum.unique {w : World} {A : Option Addr} {n c d p q : Nat} (h : IsNum w A n c p) (k : IsNum w A n d q) : p = q := by
  obtain ⟨l, h1, h2, rfl, _⟩ := h
  obtain ⟨m, k1, k2, rfl, _⟩ := k
  have hl := h1.len
  have hm := k1.len
  congr 1
  refine List.ext_getElem (by omega) (fun j hj hj' => ?_)
  have hn : 0 < n := by omega
  obtain ⟨ad, e, _, hc⟩ := h1.2 hn
  obtain ⟨ad', e', _, hc'⟩ := k1.2 hn
  rw [e] at e'
  injection e' with e'
  subst e'
  have g1 := hc j _ (ints_get l j hj)
  have g2 := hc' j _ (ints_get m j hj')
  rw [g1] at g2
  injection g2 with g2
  injection g2 with _ g2
  have g3 : l.getD j 0 = m.getD j 0 := by omega
  rw [List.getD_eq_getElem?_getD, List.getD_eq_getElem?_getD, List.getElem?_eq_getElem hj, List.getElem?_eq_getElem hj'] at g3
  exact g3
open Classical in
/-- The number that a slice is. -/
noncomputable def numOf (w : World) (v : Value) : Nat := if h : ∃ q A n c, v = .slice A n c ∧ IsNum w A n c q then h.choose else 0
theorem numOf_eq {w : World} {A : Option Addr} {n c q : Nat} (h : IsNum w A n c q) : numOf w (.slice A n c) = q := by
  have hx : ∃ q A' n' c', Value.slice A n c = .slice A' n' c' ∧ IsNum w A' n' c' q := ⟨q, A, n, c, rfl, h⟩
  unfold numOf
  rw [dif_pos hx]
  obtain ⟨A', n', c', e, h'⟩ := hx.choose_spec
  injection e with e1 e2 e3
  subst e1 e2
  exact h'.unique h
theorem gcd_fits {x y : Int} (hx : Fits x) (hy : Fits y) : Fits ((x.natAbs.gcd y.natAbs : Nat) : Int) := by
  unfold Fits at *
  rw [Int.natAbs_natCast]
  rcases Nat.eq_zero_or_pos x.natAbs with h | h
  · rw [h, Nat.gcd_zero_left]; exact hy
  · exact Nat.lt_of_le_of_lt (Nat.gcd_le_left _ h) hx
set_option maxRecDepth 100000 in
set_option maxHeartbeats 1000000 in
theorem gcd_ok (a b : ByteArray) (x y : Int) (w : World) (ht : Tab w) (ha : a.data.toList = itoa x) (hb : b.data.toList = itoa y) (hx : Fits x) (hy : Fits y) (hsa : Str a) (hsb : Str b) :
    Calls Tryz.prog 120 #[.string a, .string b] w fun e w' => e = .returned (.tuple #[.string ⟨(itoa ((x.natAbs.gcd y.natAbs : Nat) : Int)).toArray⟩, .int .i64 0]) ∧ Below w.heap.size w w' := by
  obtain ⟨lx, ly, _⟩ := mul_lt hx hy
  have LX := Lib.hid lx
  have LY := Lib.hid ly
  clear lx ly
  go_enter Tryz.func120, Tryz.ntmps120
  go_wp2_with (first
    | (go_at_call 121; go_must (refine (both_ok a b x y _ ha hb hx hy hsa hsb).mono ?_; rintro e w1 ⟨u, v, rfl, ⟨A1, n1, k1, rfl, hu⟩, ⟨A2, n2, k2, rfl, hv⟩, hb1⟩; generalize decide (x < 0) = dx at *; generalize decide (y < 0) = dy at *)))
  obtain ⟨m0, m1⟩ := two_new2 w1 #[.bool dx, .slice A1 n1 k1] #[.bool dy, .slice A2 n2 k2] 137
  have hb2 := below2 w1 (.cells #[.bool dx, .slice A1 n1 k1] 137) (.cells #[.bool dy, .slice A2 n2 k2] 137)
  have hu2 := hu.below hb2
  have hv2 := hv.below hb2
  have hB := hb1.trans (hb2.mono hb1.size)
  generalize ((w1.alloc (.cells #[.bool dx, .slice A1 n1 k1] 137)).alloc (.cells #[.bool dy, .slice A2 n2 k2] 137)) = V at *
  obtain ⟨c1, c2, _, _⟩ := two_facts m0
  obtain ⟨c3, c4, _, _⟩ := two_facts m1
  have hmx : Tryz.prog.follows .mixedOrders = true := by kernel_rfl
  go_quiet (fail)
  go_wp2
  go_loopw [9, 10] (fun kv lv wr => ∃ (A : Option Addr) (n c : Nat) (B : Option Addr) (m e p q : Nat), kv = .slice A n c ∧ lv = .slice B m e ∧ IsNum wr A n c p ∧ IsNum wr B m e q ∧ p.gcd q = x.natAbs.gcd y.natAbs ∧ Below w.heap.size w wr ∧ Hid (p < 10000 ^ 250) ∧ Hid (q < 10000 ^ 250))
    (fun _ lv wr => numOf wr lv)
  case atStart => exact ⟨A1, n1, k1, A2, n2, k2, _, _, rfl, rfl, hu2, hv2, rfl, below_drewN hB _, LX, LY⟩
  case round =>
    obtain ⟨A, n, c, B, m, e, p, q, rfl, rfl, hp, hq, hg, hBr, HP, HQ⟩ := hrel
    have hq0 := hq.zero
    by_cases hz : q = 0
    · have hm0 : m = 0 := hq0.2 hz
      subst hm0
      rw [hz, Nat.gcd_zero_right] at hg
      have hF := gcd_fits hx hy
      have hte : tText (sv false p) = itoa ((x.natAbs.gcd y.natAbs : Nat) : Int) ∧ tErr (sv false p) = 0 := by
        have e : sv false p = ((x.natAbs.gcd y.natAbs : Nat) : Int) := by simp [sv, hg]
        rw [e]
        exact ⟨by unfold tText; rw [if_pos hF], by unfold tErr; rw [if_pos hF]⟩
      have HT := Lib.hid hte
      clear hte hF hg hq0 hz
      go_wp2_with (go_at_call 126; go_must (refine (text_any _ false p _ ⟨A, n, c, rfl, hp⟩ HP.out (ht.below hBr)).mono ?_; rintro e w3 ⟨rfl, hb3⟩; rw [HT.out.1, HT.out.2]))
      refine bodyPost_ret (v := .tuple #[.string ⟨(itoa ((x.natAbs.gcd y.natAbs : Nat) : Int)).toArray⟩, .int .i64 0]) ?res rfl ⟨rfl, hBr.trans (hb3.mono hBr.size)⟩
      case res => simp [results, Tryz.f120, go_sem]
    · have hm0 : 0 < m := by
        rcases Nat.eq_zero_or_pos m with h | h
        · exact absurd (hq0.1 h) hz
        · exact h
      have hqp : 0 < q := by omega
      clear hq0
      go_wp2_with (go_at_call 122; go_must (refine (over_any A B n c m e p q _ hp hq HP.out HQ.out hqp).mono ?_; rintro e' w3 ⟨Aq, nq, cq, Ar, nr, cr, rfl, hqq, hrr, hb3⟩))
      go_roundw
      case rel => exact ⟨B, m, e, Ar, nr, cr, q, p % q, rfl, rfl, hq.below hb3, hrr, by rw [← hg, Nat.gcd_comm p q, Nat.gcd_rec q p, Nat.gcd_comm], hBr.trans (hb3.mono hBr.size), HQ, Nat.lt_trans (Nat.mod_lt _ hqp) HQ.out⟩
      case measure => rw [numOf_eq hrr, numOf_eq hq]; exact Nat.mod_lt _ hqp
end Go.Proofs.YtngohpgkceedeaaGreatDoor
