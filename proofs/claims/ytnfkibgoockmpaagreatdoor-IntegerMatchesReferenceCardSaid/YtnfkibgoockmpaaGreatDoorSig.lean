/-
  A sum of numbers with their signs.
-/
import Derived.Test.YtnfkibgoockmpaaGreatDoorBoth
import Derived.Test.YtnfkibgoockmpaaGreatDoorCmp
import Derived.Test.YtnfkibgoockmpaaGreatDoorSum
import Derived.Deep.RegionHeld3
namespace Go.Proofs.YtnfkibgoockmpaaGreatDoor
open Go Go.RowKit Go.Lib Go.Shelf

/-- The integer that a sign and an absolute value are. -/
def sv (neg : Bool) (x : Nat) : Int := if neg then -(x : Int) else x
theorem sv_abs (z : Int) : sv (decide (z < 0)) z.natAbs = z := by
  unfold sv
  by_cases h : z < 0
  · simp [h]; omega
  · simp [h]; omega
theorem three_new (w : World) (u v r : Array Value) (t : TypeId) :
    (((w.alloc (.cells u t)).alloc (.cells v t)).alloc (.cells r t)).heap[w.heap.size]? = some (.cells u t (0, 0)) ∧ (((w.alloc (.cells u t)).alloc (.cells v t)).alloc (.cells r t)).heap[w.heap.size + 1]? = some (.cells v t (0, 0))
      ∧ (((w.alloc (.cells u t)).alloc (.cells v t)).alloc (.cells r t)).heap[w.heap.size + 1 + 1]? = some (.cells r t (0, 0)) ∧ Below w.heap.size w (((w.alloc (.cells u t)).alloc (.cells v t)).alloc (.cells r t)) := by
  refine ⟨?_, ?_, ?_, (((Below.refl _ w).alloc (Nat.le_refl _) _).alloc (by simp) _).alloc (by simp; omega) _⟩
  · rw [Below.heap_alloc _ _ _ (by simp; omega), Below.heap_alloc _ _ _ (by simp)]
    exact heap_alloc_new _ _
  · rw [Below.heap_alloc _ _ _ (by simp)]
    have : w.heap.size + 1 = (w.alloc (.cells u t)).heap.size := by simp
    rw [this]
    exact heap_alloc_new _ _
  · have : w.heap.size + 1 + 1 = ((w.alloc (.cells u t)).alloc (.cells v t)).heap.size := by simp
    rw [this]
    exact heap_alloc_new _ _

set_option maxRecDepth 100000 in
set_option maxHeartbeats 1000000 in
theorem splus_any (u v : Value) (nu nv : Bool) (x y : Nat) (w : World) (hu : IsSig w u nu x) (hv : IsSig w v nv y) (hx : Mod x) (hy : Mod y) :
    Calls Tryz.prog 39 #[u, v] w fun e w' => ∃ r nr z, e = .returned r ∧ IsSig w' r nr z ∧ sv nr z = sv nu x + sv nv y ∧ Below w.heap.size w w' := by
  have hmx : Tryz.prog.follows .mixedOrders = true := by kernel_rfl
  obtain ⟨A1, n1, k1, rfl, hu⟩ := hu
  obtain ⟨A2, n2, k2, rfl, hv⟩ := hv
  obtain ⟨hn0, hn1, hn2, hB0⟩ := three_new w #[.bool nu, .slice A1 n1 k1] #[.bool nv, .slice A2 n2 k2] #[.bool false, .slice none 0 0] 50
  have hu0 := hu.below hB0
  have hv0 := hv.below hB0
  obtain ⟨c1, c2, _, _⟩ := two_facts hn0
  obtain ⟨c3, c4, _, _⟩ := two_facts hn1
  cases nu <;> cases nv
  · have hsum : sv false (x + y) = sv false x + sv false y := by simp [sv]; try omega
    go_enter Tryz.func39, Tryz.ntmps39
    go_wp2
    generalize (((w.alloc (.cells #[.bool false, .slice A1 n1 k1] 50)).alloc (.cells #[.bool false, .slice A2 n2 k2] 50)).alloc (.cells #[.bool false, .slice none 0 0] 50)) = W0 at *
    go_region_held3 (fun X => X.cell? ⟨w.heap.size, 0, none⟩ = some (.bool false) ∧ X.cell? ⟨w.heap.size, 1, none⟩ = some (.slice A1 n1 k1) ∧ X.cell? ⟨w.heap.size + 1, 0, none⟩ = some (.bool false) ∧ X.cell? ⟨w.heap.size + 1, 1, none⟩ = some (.slice A2 n2 k2)) (first | exact ⟨c1, c2, c3, c4⟩ | exact ⟨d1, d2, d3, d4⟩ | (refine ⟨?_, ?_, ?_, ?_⟩ <;> (rw [World.cell?_setCell_other _ _ _ _ (by simp <;> omega), World.cell?_setCell_other _ _ _ _ (by simp <;> omega)]; first | exact d1 | exact d2 | exact d3 | exact d4))) (first | (go_at_call 43; refine (plus_any A1 A2 n1 k1 n2 k2 x y _ (by exact hu0) (by exact hv0) hx hy).mono ?_; rintro e W2 ⟨A3, n3, k3, rfl, h3, hb3'⟩; have hb3 := below_of_drew hb3'; have g0 := (hb3.block _ (Array.getElem?_eq_some_iff.1 hn0).1).trans hn0; have g1 := (hb3.block _ (Array.getElem?_eq_some_iff.1 hn1).1).trans hn1; have g2 := (hb3.block _ (Array.getElem?_eq_some_iff.1 hn2).1).trans hn2; obtain ⟨d1, d2, _, _⟩ := two_facts g0; obtain ⟨d3, d4, _, _⟩ := two_facts g1; obtain ⟨d5, d6, d7, d8⟩ := two_facts g2))
    go_wp2
    have hB3 := hB0.trans (hb3.mono hB0.size)
    have hst := store_two g2 (.bool false) (.slice A3 n3 k3)
    have hnn := h3.storeTwo g2 (fun _ _ e => by cases e) (fun _ _ e => by cases e) (.bool false) (.slice A3 n3 k3) (fun _ _ e => by cases e)
    have hB4 := (hB3.setCell (p := ⟨w.heap.size + 1 + 1, 0, none⟩) (by simp; omega) (.bool false)).setCell (p := ⟨w.heap.size + 1 + 1, 1, none⟩) (by simp; omega) (.slice A3 n3 k3)
    generalize ((W2.setCell ⟨w.heap.size + 1 + 1, 0, none⟩ (.bool false)).setCell ⟨w.heap.size + 1 + 1, 1, none⟩ (.slice A3 n3 k3)) = Wf at *
    obtain ⟨f1, f2, _, _⟩ := two_facts hst
    refine bodyPost_ret (v := .agg #[.bool false, .slice A3 n3 k3]) ?res rfl ?_
    case res => simp [results, Tryz.f39, go_sem, f1, f2]
    exact ⟨_, false, (x + y), rfl, ⟨A3, n3, k3, rfl, hnn⟩, hsum, hB4⟩
  · by_cases hxy : y ≤ x
    · have hsum : sv false (x - y) = sv false x + sv true y := by simp [sv]; try omega
      have hcz : 0 ≤ cmpZ x y := by unfold cmpZ; split <;> (try split) <;> omega
      go_enter Tryz.func39, Tryz.ntmps39
      go_wp2_with (go_at_call 46; generalize (((w.alloc (.cells #[.bool false, .slice A1 n1 k1] 50)).alloc (.cells #[.bool true, .slice A2 n2 k2] 50)).alloc (.cells #[.bool false, .slice none 0 0] 50)) = W0 at *; refine (compare_any A1 A2 n1 k1 n2 k2 x y _ hu0 hv0 hx hy).mono ?_; rintro e W1 ⟨rfl, hb1⟩; have hn0 := (hb1.block _ (Array.getElem?_eq_some_iff.1 hn0).1).trans hn0; have hn1 := (hb1.block _ (Array.getElem?_eq_some_iff.1 hn1).1).trans hn1; have hn2 := (hb1.block _ (Array.getElem?_eq_some_iff.1 hn2).1).trans hn2; have hu0 := hu0.below hb1; have hv0 := hv0.below hb1; have hB0 := hB0.trans (hb1.mono hB0.size); obtain ⟨c1, c2, _, _⟩ := two_facts hn0; obtain ⟨c3, c4, _, _⟩ := two_facts hn1)
      go_region_held3 (fun X => X.cell? ⟨w.heap.size, 0, none⟩ = some (.bool false) ∧ X.cell? ⟨w.heap.size, 1, none⟩ = some (.slice A1 n1 k1) ∧ X.cell? ⟨w.heap.size + 1, 0, none⟩ = some (.bool true) ∧ X.cell? ⟨w.heap.size + 1, 1, none⟩ = some (.slice A2 n2 k2)) (first | exact ⟨c1, c2, c3, c4⟩ | exact ⟨d1, d2, d3, d4⟩ | (refine ⟨?_, ?_, ?_, ?_⟩ <;> (rw [World.cell?_setCell_other _ _ _ _ (by simp <;> omega), World.cell?_setCell_other _ _ _ _ (by simp <;> omega)]; first | exact d1 | exact d2 | exact d3 | exact d4))) (first | (go_at_call 45; refine (minus_any A1 A2 n1 k1 n2 k2 x y _ (by exact hu0) (by exact hv0) hx hy hxy).mono ?_; rintro e W2 ⟨A3, n3, k3, rfl, h3, hb3'⟩; have hb3 := below_of_drew hb3'; have g0 := (hb3.block _ (Array.getElem?_eq_some_iff.1 hn0).1).trans hn0; have g1 := (hb3.block _ (Array.getElem?_eq_some_iff.1 hn1).1).trans hn1; have g2 := (hb3.block _ (Array.getElem?_eq_some_iff.1 hn2).1).trans hn2; obtain ⟨d1, d2, _, _⟩ := two_facts g0; obtain ⟨d3, d4, _, _⟩ := two_facts g1; obtain ⟨d5, d6, d7, d8⟩ := two_facts g2))
      go_wp2
      have hB3 := hB0.trans (hb3.mono hB0.size)
      have hst := store_two g2 (.bool false) (.slice A3 n3 k3)
      have hnn := h3.storeTwo g2 (fun _ _ e => by cases e) (fun _ _ e => by cases e) (.bool false) (.slice A3 n3 k3) (fun _ _ e => by cases e)
      have hB4 := (hB3.setCell (p := ⟨w.heap.size + 1 + 1, 0, none⟩) (by simp; omega) (.bool false)).setCell (p := ⟨w.heap.size + 1 + 1, 1, none⟩) (by simp; omega) (.slice A3 n3 k3)
      generalize ((W2.setCell ⟨w.heap.size + 1 + 1, 0, none⟩ (.bool false)).setCell ⟨w.heap.size + 1 + 1, 1, none⟩ (.slice A3 n3 k3)) = Wf at *
      obtain ⟨f1, f2, _, _⟩ := two_facts hst
      refine bodyPost_ret (v := .agg #[.bool false, .slice A3 n3 k3]) ?res rfl ?_
      case res => simp [results, Tryz.f39, go_sem, f1, f2]
      exact ⟨_, false, (x - y), rfl, ⟨A3, n3, k3, rfl, hnn⟩, hsum, hB4⟩
    · have hsum : sv true (y - x) = sv false x + sv true y := by simp [sv]; try omega
      have hcz : cmpZ x y < 0 := by unfold cmpZ; split <;> (try split) <;> omega
      go_enter Tryz.func39, Tryz.ntmps39
      go_wp2_with (go_at_call 46; generalize (((w.alloc (.cells #[.bool false, .slice A1 n1 k1] 50)).alloc (.cells #[.bool true, .slice A2 n2 k2] 50)).alloc (.cells #[.bool false, .slice none 0 0] 50)) = W0 at *; refine (compare_any A1 A2 n1 k1 n2 k2 x y _ hu0 hv0 hx hy).mono ?_; rintro e W1 ⟨rfl, hb1⟩; have hn0 := (hb1.block _ (Array.getElem?_eq_some_iff.1 hn0).1).trans hn0; have hn1 := (hb1.block _ (Array.getElem?_eq_some_iff.1 hn1).1).trans hn1; have hn2 := (hb1.block _ (Array.getElem?_eq_some_iff.1 hn2).1).trans hn2; have hu0 := hu0.below hb1; have hv0 := hv0.below hb1; have hB0 := hB0.trans (hb1.mono hB0.size); obtain ⟨c1, c2, _, _⟩ := two_facts hn0; obtain ⟨c3, c4, _, _⟩ := two_facts hn1)
      go_region_held3 (fun X => X.cell? ⟨w.heap.size, 0, none⟩ = some (.bool false) ∧ X.cell? ⟨w.heap.size, 1, none⟩ = some (.slice A1 n1 k1) ∧ X.cell? ⟨w.heap.size + 1, 0, none⟩ = some (.bool true) ∧ X.cell? ⟨w.heap.size + 1, 1, none⟩ = some (.slice A2 n2 k2)) (first | exact ⟨c1, c2, c3, c4⟩ | exact ⟨d1, d2, d3, d4⟩ | (refine ⟨?_, ?_, ?_, ?_⟩ <;> (rw [World.cell?_setCell_other _ _ _ _ (by simp <;> omega), World.cell?_setCell_other _ _ _ _ (by simp <;> omega)]; first | exact d1 | exact d2 | exact d3 | exact d4))) (first | (go_at_call 45; refine (minus_any A2 A1 n2 k2 n1 k1 y x _ (by exact hv0) (by exact hu0) hy hx (by omega)).mono ?_; rintro e W2 ⟨A3, n3, k3, rfl, h3, hb3'⟩; have hb3 := below_of_drew hb3'; have g0 := (hb3.block _ (Array.getElem?_eq_some_iff.1 hn0).1).trans hn0; have g1 := (hb3.block _ (Array.getElem?_eq_some_iff.1 hn1).1).trans hn1; have g2 := (hb3.block _ (Array.getElem?_eq_some_iff.1 hn2).1).trans hn2; obtain ⟨d1, d2, _, _⟩ := two_facts g0; obtain ⟨d3, d4, _, _⟩ := two_facts g1; obtain ⟨d5, d6, d7, d8⟩ := two_facts g2))
      go_wp2
      have hB3 := hB0.trans (hb3.mono hB0.size)
      have hst := store_two g2 (.bool true) (.slice A3 n3 k3)
      have hnn := h3.storeTwo g2 (fun _ _ e => by cases e) (fun _ _ e => by cases e) (.bool true) (.slice A3 n3 k3) (fun _ _ e => by cases e)
      have hB4 := (hB3.setCell (p := ⟨w.heap.size + 1 + 1, 0, none⟩) (by simp; omega) (.bool true)).setCell (p := ⟨w.heap.size + 1 + 1, 1, none⟩) (by simp; omega) (.slice A3 n3 k3)
      generalize ((W2.setCell ⟨w.heap.size + 1 + 1, 0, none⟩ (.bool true)).setCell ⟨w.heap.size + 1 + 1, 1, none⟩ (.slice A3 n3 k3)) = Wf at *
      obtain ⟨f1, f2, _, _⟩ := two_facts hst
      refine bodyPost_ret (v := .agg #[.bool true, .slice A3 n3 k3]) ?res rfl ?_
      case res => simp [results, Tryz.f39, go_sem, f1, f2]
      exact ⟨_, true, (y - x), rfl, ⟨A3, n3, k3, rfl, hnn⟩, hsum, hB4⟩
  · by_cases hxy : y ≤ x
    · have hsum : sv true (x - y) = sv true x + sv false y := by simp [sv]; try omega
      have hcz : 0 ≤ cmpZ x y := by unfold cmpZ; split <;> (try split) <;> omega
      go_enter Tryz.func39, Tryz.ntmps39
      go_wp2_with (go_at_call 46; generalize (((w.alloc (.cells #[.bool true, .slice A1 n1 k1] 50)).alloc (.cells #[.bool false, .slice A2 n2 k2] 50)).alloc (.cells #[.bool false, .slice none 0 0] 50)) = W0 at *; refine (compare_any A1 A2 n1 k1 n2 k2 x y _ hu0 hv0 hx hy).mono ?_; rintro e W1 ⟨rfl, hb1⟩; have hn0 := (hb1.block _ (Array.getElem?_eq_some_iff.1 hn0).1).trans hn0; have hn1 := (hb1.block _ (Array.getElem?_eq_some_iff.1 hn1).1).trans hn1; have hn2 := (hb1.block _ (Array.getElem?_eq_some_iff.1 hn2).1).trans hn2; have hu0 := hu0.below hb1; have hv0 := hv0.below hb1; have hB0 := hB0.trans (hb1.mono hB0.size); obtain ⟨c1, c2, _, _⟩ := two_facts hn0; obtain ⟨c3, c4, _, _⟩ := two_facts hn1)
      go_region_held3 (fun X => X.cell? ⟨w.heap.size, 0, none⟩ = some (.bool true) ∧ X.cell? ⟨w.heap.size, 1, none⟩ = some (.slice A1 n1 k1) ∧ X.cell? ⟨w.heap.size + 1, 0, none⟩ = some (.bool false) ∧ X.cell? ⟨w.heap.size + 1, 1, none⟩ = some (.slice A2 n2 k2)) (first | exact ⟨c1, c2, c3, c4⟩ | exact ⟨d1, d2, d3, d4⟩ | (refine ⟨?_, ?_, ?_, ?_⟩ <;> (rw [World.cell?_setCell_other _ _ _ _ (by simp <;> omega), World.cell?_setCell_other _ _ _ _ (by simp <;> omega)]; first | exact d1 | exact d2 | exact d3 | exact d4))) (first | (go_at_call 45; refine (minus_any A1 A2 n1 k1 n2 k2 x y _ (by exact hu0) (by exact hv0) hx hy hxy).mono ?_; rintro e W2 ⟨A3, n3, k3, rfl, h3, hb3'⟩; have hb3 := below_of_drew hb3'; have g0 := (hb3.block _ (Array.getElem?_eq_some_iff.1 hn0).1).trans hn0; have g1 := (hb3.block _ (Array.getElem?_eq_some_iff.1 hn1).1).trans hn1; have g2 := (hb3.block _ (Array.getElem?_eq_some_iff.1 hn2).1).trans hn2; obtain ⟨d1, d2, _, _⟩ := two_facts g0; obtain ⟨d3, d4, _, _⟩ := two_facts g1; obtain ⟨d5, d6, d7, d8⟩ := two_facts g2))
      go_wp2
      have hB3 := hB0.trans (hb3.mono hB0.size)
      have hst := store_two g2 (.bool true) (.slice A3 n3 k3)
      have hnn := h3.storeTwo g2 (fun _ _ e => by cases e) (fun _ _ e => by cases e) (.bool true) (.slice A3 n3 k3) (fun _ _ e => by cases e)
      have hB4 := (hB3.setCell (p := ⟨w.heap.size + 1 + 1, 0, none⟩) (by simp; omega) (.bool true)).setCell (p := ⟨w.heap.size + 1 + 1, 1, none⟩) (by simp; omega) (.slice A3 n3 k3)
      generalize ((W2.setCell ⟨w.heap.size + 1 + 1, 0, none⟩ (.bool true)).setCell ⟨w.heap.size + 1 + 1, 1, none⟩ (.slice A3 n3 k3)) = Wf at *
      obtain ⟨f1, f2, _, _⟩ := two_facts hst
      refine bodyPost_ret (v := .agg #[.bool true, .slice A3 n3 k3]) ?res rfl ?_
      case res => simp [results, Tryz.f39, go_sem, f1, f2]
      exact ⟨_, true, (x - y), rfl, ⟨A3, n3, k3, rfl, hnn⟩, hsum, hB4⟩
    · have hsum : sv false (y - x) = sv true x + sv false y := by simp [sv]; try omega
      have hcz : cmpZ x y < 0 := by unfold cmpZ; split <;> (try split) <;> omega
      go_enter Tryz.func39, Tryz.ntmps39
      go_wp2_with (go_at_call 46; generalize (((w.alloc (.cells #[.bool true, .slice A1 n1 k1] 50)).alloc (.cells #[.bool false, .slice A2 n2 k2] 50)).alloc (.cells #[.bool false, .slice none 0 0] 50)) = W0 at *; refine (compare_any A1 A2 n1 k1 n2 k2 x y _ hu0 hv0 hx hy).mono ?_; rintro e W1 ⟨rfl, hb1⟩; have hn0 := (hb1.block _ (Array.getElem?_eq_some_iff.1 hn0).1).trans hn0; have hn1 := (hb1.block _ (Array.getElem?_eq_some_iff.1 hn1).1).trans hn1; have hn2 := (hb1.block _ (Array.getElem?_eq_some_iff.1 hn2).1).trans hn2; have hu0 := hu0.below hb1; have hv0 := hv0.below hb1; have hB0 := hB0.trans (hb1.mono hB0.size); obtain ⟨c1, c2, _, _⟩ := two_facts hn0; obtain ⟨c3, c4, _, _⟩ := two_facts hn1)
      go_region_held3 (fun X => X.cell? ⟨w.heap.size, 0, none⟩ = some (.bool true) ∧ X.cell? ⟨w.heap.size, 1, none⟩ = some (.slice A1 n1 k1) ∧ X.cell? ⟨w.heap.size + 1, 0, none⟩ = some (.bool false) ∧ X.cell? ⟨w.heap.size + 1, 1, none⟩ = some (.slice A2 n2 k2)) (first | exact ⟨c1, c2, c3, c4⟩ | exact ⟨d1, d2, d3, d4⟩ | (refine ⟨?_, ?_, ?_, ?_⟩ <;> (rw [World.cell?_setCell_other _ _ _ _ (by simp <;> omega), World.cell?_setCell_other _ _ _ _ (by simp <;> omega)]; first | exact d1 | exact d2 | exact d3 | exact d4))) (first | (go_at_call 45; refine (minus_any A2 A1 n2 k2 n1 k1 y x _ (by exact hv0) (by exact hu0) hy hx (by omega)).mono ?_; rintro e W2 ⟨A3, n3, k3, rfl, h3, hb3'⟩; have hb3 := below_of_drew hb3'; have g0 := (hb3.block _ (Array.getElem?_eq_some_iff.1 hn0).1).trans hn0; have g1 := (hb3.block _ (Array.getElem?_eq_some_iff.1 hn1).1).trans hn1; have g2 := (hb3.block _ (Array.getElem?_eq_some_iff.1 hn2).1).trans hn2; obtain ⟨d1, d2, _, _⟩ := two_facts g0; obtain ⟨d3, d4, _, _⟩ := two_facts g1; obtain ⟨d5, d6, d7, d8⟩ := two_facts g2))
      go_wp2
      have hB3 := hB0.trans (hb3.mono hB0.size)
      have hst := store_two g2 (.bool false) (.slice A3 n3 k3)
      have hnn := h3.storeTwo g2 (fun _ _ e => by cases e) (fun _ _ e => by cases e) (.bool false) (.slice A3 n3 k3) (fun _ _ e => by cases e)
      have hB4 := (hB3.setCell (p := ⟨w.heap.size + 1 + 1, 0, none⟩) (by simp; omega) (.bool false)).setCell (p := ⟨w.heap.size + 1 + 1, 1, none⟩) (by simp; omega) (.slice A3 n3 k3)
      generalize ((W2.setCell ⟨w.heap.size + 1 + 1, 0, none⟩ (.bool false)).setCell ⟨w.heap.size + 1 + 1, 1, none⟩ (.slice A3 n3 k3)) = Wf at *
      obtain ⟨f1, f2, _, _⟩ := two_facts hst
      refine bodyPost_ret (v := .agg #[.bool false, .slice A3 n3 k3]) ?res rfl ?_
      case res => simp [results, Tryz.f39, go_sem, f1, f2]
      exact ⟨_, false, (y - x), rfl, ⟨A3, n3, k3, rfl, hnn⟩, hsum, hB4⟩
  · have hsum : sv true (x + y) = sv true x + sv true y := by simp [sv]; try omega
    go_enter Tryz.func39, Tryz.ntmps39
    go_wp2
    generalize (((w.alloc (.cells #[.bool true, .slice A1 n1 k1] 50)).alloc (.cells #[.bool true, .slice A2 n2 k2] 50)).alloc (.cells #[.bool false, .slice none 0 0] 50)) = W0 at *
    go_region_held3 (fun X => X.cell? ⟨w.heap.size, 0, none⟩ = some (.bool true) ∧ X.cell? ⟨w.heap.size, 1, none⟩ = some (.slice A1 n1 k1) ∧ X.cell? ⟨w.heap.size + 1, 0, none⟩ = some (.bool true) ∧ X.cell? ⟨w.heap.size + 1, 1, none⟩ = some (.slice A2 n2 k2)) (first | exact ⟨c1, c2, c3, c4⟩ | exact ⟨d1, d2, d3, d4⟩ | (refine ⟨?_, ?_, ?_, ?_⟩ <;> (rw [World.cell?_setCell_other _ _ _ _ (by simp <;> omega), World.cell?_setCell_other _ _ _ _ (by simp <;> omega)]; first | exact d1 | exact d2 | exact d3 | exact d4))) (first | (go_at_call 43; refine (plus_any A1 A2 n1 k1 n2 k2 x y _ (by exact hu0) (by exact hv0) hx hy).mono ?_; rintro e W2 ⟨A3, n3, k3, rfl, h3, hb3'⟩; have hb3 := below_of_drew hb3'; have g0 := (hb3.block _ (Array.getElem?_eq_some_iff.1 hn0).1).trans hn0; have g1 := (hb3.block _ (Array.getElem?_eq_some_iff.1 hn1).1).trans hn1; have g2 := (hb3.block _ (Array.getElem?_eq_some_iff.1 hn2).1).trans hn2; obtain ⟨d1, d2, _, _⟩ := two_facts g0; obtain ⟨d3, d4, _, _⟩ := two_facts g1; obtain ⟨d5, d6, d7, d8⟩ := two_facts g2))
    go_wp2
    have hB3 := hB0.trans (hb3.mono hB0.size)
    have hst := store_two g2 (.bool true) (.slice A3 n3 k3)
    have hnn := h3.storeTwo g2 (fun _ _ e => by cases e) (fun _ _ e => by cases e) (.bool true) (.slice A3 n3 k3) (fun _ _ e => by cases e)
    have hB4 := (hB3.setCell (p := ⟨w.heap.size + 1 + 1, 0, none⟩) (by simp; omega) (.bool true)).setCell (p := ⟨w.heap.size + 1 + 1, 1, none⟩) (by simp; omega) (.slice A3 n3 k3)
    generalize ((W2.setCell ⟨w.heap.size + 1 + 1, 0, none⟩ (.bool true)).setCell ⟨w.heap.size + 1 + 1, 1, none⟩ (.slice A3 n3 k3)) = Wf at *
    obtain ⟨f1, f2, _, _⟩ := two_facts hst
    refine bodyPost_ret (v := .agg #[.bool true, .slice A3 n3 k3]) ?res rfl ?_
    case res => simp [results, Tryz.f39, go_sem, f1, f2]
    exact ⟨_, true, (x + y), rfl, ⟨A3, n3, k3, rfl, hnn⟩, hsum, hB4⟩
end Go.Proofs.YtnfkibgoockmpaaGreatDoor
