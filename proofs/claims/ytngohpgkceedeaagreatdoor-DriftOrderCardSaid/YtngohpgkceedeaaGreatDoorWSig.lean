/-
  both: two valid strings are two numbers.
-/
import Derived.Deep.RegionHeld3
import Derived.Test.YtngohpgkceedeaaGreatDoorWCmp
import Derived.Test.YtngohpgkceedeaaGreatDoorWParse
namespace Go.Proofs.YtngohpgkceedeaaGreatDoor
open Go Go.RowKit Go.Lib Go.Shelf

/-- A number with its sign. -/
def IsSig (w : World) (v : Value) (neg : Bool) (x : Nat) : Prop := ∃ A n c, v = .agg #[.bool neg, .slice A n c] ∧ IsNum w A n c x
theorem IsSig.below {w w' : World} {v : Value} {neg : Bool} {x : Nat} (h : IsSig w v neg x) (hb : Below w.heap.size w w') : IsSig w' v neg x :=
  let ⟨A, n, c, e, hn⟩ := h; ⟨A, n, c, e, hn.below hb⟩
theorem two_facts {W : World} {b : Nat} {v0 v1 : Value} {t : TypeId} (h : W.heap[b]? = some (.cells #[v0, v1] t (0, 0))) :
    W.cell? ⟨b, 0, none⟩ = some v0 ∧ W.cell? ⟨b, 1, none⟩ = some v1 ∧ W.frozen? ⟨b, 0, none⟩ = false ∧ W.frozen? ⟨b, 1, none⟩ = false :=
  ⟨cell_of_row _ _ 0 _ _ _ h, cell_of_row _ _ 1 _ _ _ h, frozen_of_row _ _ 0 _ _ h, frozen_of_row _ _ 1 _ _ h⟩
theorem IsNum.setCells {W : World} {A : Option Addr} {n c x : Nat} (h : IsNum W A n c x) {b i : Nat} {cs : List Value} {t : TypeId} (hb : W.heap[b]? = some (.cells cs.toArray t (0, 0)))
    (hv : ∀ v ∈ cs, ∀ a y, v ≠ .int a y) (u : Value) : IsNum (W.setCell ⟨b, i, none⟩ u) A n c x := by
  obtain ⟨l, h1, h2, h3, h4⟩ := h
  refine ⟨l, ⟨h1.1, fun hn => ?_⟩, h2, h3, h4⟩
  obtain ⟨ad, e, hlt, hc⟩ := h1.2 hn
  refine ⟨ad, e, by simpa [World.setCell] using hlt, fun j u' hu => ?_⟩
  have hcell := hc j u' hu
  by_cases he : (ad.add j).block = b
  · exfalso
    have hu2 : ∃ a y, u' = .int a y := by
      unfold ints at hu
      rw [List.getElem?_map] at hu
      cases hl : l[j]? with
      | none => rw [hl] at hu; cases hu
      | some y => rw [hl] at hu; simp at hu; exact ⟨_, _, hu.symm⟩
    obtain ⟨a', y', rfl⟩ := hu2
    unfold World.cell? at hcell
    rw [he, hb] at hcell
    simp only at hcell
    split at hcell
    · cases hcell
    · rw [List.getElem?_toArray] at hcell
      exact hv _ (List.mem_of_getElem? hcell) _ _ rfl
  · rw [World.cell?_setCell_other W _ _ u (fun e => he (by rw [← e]))]
    exact hcell
theorem store_two {W : World} {b : Nat} {v0 v1 : Value} {t : TypeId} (h : W.heap[b]? = some (.cells #[v0, v1] t (0, 0))) (u0 u1 : Value) :
    ((W.setCell ⟨b, 0, none⟩ u0).setCell ⟨b, 1, none⟩ u1).heap[b]? = some (.cells #[u0, u1] t (0, 0)) := by
  simp [World.setCell, Array.getElem?_modify, h]
theorem IsNum.storeTwo {W : World} {A : Option Addr} {n c x : Nat} (h : IsNum W A n c x) {b : Nat} {v0 v1 : Value} {t : TypeId} (hb : W.heap[b]? = some (.cells #[v0, v1] t (0, 0)))
    (h0 : ∀ a y, v0 ≠ .int a y) (h1 : ∀ a y, v1 ≠ .int a y) (u0 u1 : Value) (hu : ∀ a y, u0 ≠ .int a y) : IsNum ((W.setCell ⟨b, 0, none⟩ u0).setCell ⟨b, 1, none⟩ u1) A n c x := by
  refine IsNum.setCells (cs := [u0, v1]) (IsNum.setCells (cs := [v0, v1]) h hb ?_ u0) (t := t) (by simp [World.setCell, Array.getElem?_modify, hb]) ?_ u1
  · intro v hv; simp at hv; rcases hv with rfl | rfl <;> assumption
  · intro v hv; simp at hv; rcases hv with rfl | rfl <;> assumption
theorem two_far {W : World} {b b' : Nat} (hne : b ≠ b') (u0 u1 : Value) : ((W.setCell ⟨b', 0, none⟩ u0).setCell ⟨b', 1, none⟩ u1).heap[b]? = W.heap[b]? := by
  rw [Below.heap_setCell _ _ _ _ hne, Below.heap_setCell _ _ _ _ hne]
theorem size_list (s : ByteArray) : s.size = s.data.toList.length := by rw [Array.length_toList]; rfl
theorem itoa_length (z : Int) : decide ((decDigits z.natAbs).length < (itoa z).length) = decide (z < 0) := by
  congr 1
  rcases Int.lt_or_le z 0 with h | h
  · have e : z = -(z.natAbs : Int) := by omega
    have : (itoa z).length = (decDigits z.natAbs).length + 1 := by
      rw [e, itoa_ng _ (by omega)]; simp
    rw [this]
    simp [h]
  · have e : z = (z.natAbs : Int) := by omega
    have : (itoa z).length = (decDigits z.natAbs).length := by
      conv => lhs; rw [e]
      rw [itoa_nn]
    rw [this]
    have h2 : ¬ z < 0 := by omega
    simp [h2]
/-- parse, at a number. -/
theorem parse_z (s : ByteArray) (z : Int) (w : World) (hs : s.data.toList = itoa z) (hf : Fits z) :
    Calls Tryz.prog 168 #[.string s] w fun e w' => ∃ v, e = .returned v ∧ IsSig w' v (decide (z < 0)) z.natAbs ∧ Below w.heap.size w w' := by
  have hb : body s.data.toList = decDigits z.natAbs := by rw [hs, body_itoa]
  refine (parse_any s w (by rw [hb]; exact decDigits_dig _) (by rw [hb]; exact (fits_iff z).2 hf)).mono ?_
  rintro e w' ⟨A, n, c, rfl, hn, hB⟩
  rw [hb, evalD_decDigits] at hn
  refine ⟨_, rfl, ⟨A, n, c, ?_, hn⟩, hB⟩
  rw [hb, size_list, hs, itoa_length]
theorem isValid_true (s : ByteArray) (w : World) (hs : s.size ≤ 9223372036854775807) (hv : validB s.data.toList = true) :
    Calls Tryz.prog 167 #[.string s] w fun e w' => e = .returned (.bool true) ∧ Below w.heap.size w w' := by
  have := isValid_any s w hs
  rwa [hv] at this
theorem two_new (w : World) (v : Array Value) (t : TypeId) : ((w.alloc (.cells v t)).alloc (.cells v t)).heap[w.heap.size]? = some (.cells v t (0, 0)) ∧ ((w.alloc (.cells v t)).alloc (.cells v t)).heap[w.heap.size + 1]? = some (.cells v t (0, 0)) := by
  constructor
  · rw [Below.heap_alloc _ _ _ (by simp)]
    exact heap_alloc_new _ _
  · have : w.heap.size + 1 = (w.alloc (.cells v t)).heap.size := by simp
    rw [this]
    exact heap_alloc_new _ _

set_option maxRecDepth 100000 in
set_option maxHeartbeats 1000000 in
theorem both_ok (a b : ByteArray) (x y : Int) (w : World) (ha : a.data.toList = itoa x) (hb : b.data.toList = itoa y) (hx : Fits x) (hy : Fits y)
    (hsa : a.size ≤ 9223372036854775807) (hsb : b.size ≤ 9223372036854775807) :
    Calls Tryz.prog 121 #[.string a, .string b] w fun e w' => ∃ u v, e = .returned (.tuple #[u, v, .bool true]) ∧ IsSig w' u (decide (x < 0)) x.natAbs ∧ IsSig w' v (decide (y < 0)) y.natAbs ∧ Below w.heap.size w w' := by
  have hva : validB a.data.toList = true := by rw [ha]; exact validB_itoa x hx
  have hvb : validB b.data.toList = true := by rw [hb]; exact validB_itoa y hy
  obtain ⟨hn0, hn1⟩ := two_new w #[.bool false, .slice none 0 0] 137
  have hB0 := below2 w (.cells #[.bool false, .slice none 0 0] 137) (.cells #[.bool false, .slice none 0 0] 137)
  go_enter Tryz.func121, Tryz.ntmps121
  go_wp2_with (first
    | (go_at_call_of 167 (Value.string a); generalize ((w.alloc (.cells #[.bool false, .slice none 0 0] 137)).alloc (.cells #[.bool false, .slice none 0 0] 137)) = W0 at *; refine (isValid_true a _ hsa hva).mono ?_; rintro e w1 ⟨rfl, hb1⟩)
    | (go_at_call_of 167 (Value.string b); refine (isValid_true b _ hsb hvb).mono ?_; rintro e w2 ⟨rfl, hb2⟩)
    | (go_at_call_of 168 (Value.string a); refine (parse_z a x _ ha hx).mono ?_; rintro e w3 ⟨u, rfl, hu, hb3⟩)
    | (go_at_call_of 168 (Value.string b); refine (parse_z b y _ hb hy).mono ?_; rintro e w4 ⟨v, rfl, hv, hb4⟩; have hb14 : Below W0.heap.size W0 w4 := ((hb1.trans (hb2.mono hb1.size)).trans (hb3.mono (hb1.trans (hb2.mono hb1.size)).size)).trans (hb4.mono ((hb1.trans (hb2.mono hb1.size)).trans (hb3.mono (hb1.trans (hb2.mono hb1.size)).size)).size); have hm0 := (hb14.block _ (Array.getElem?_eq_some_iff.1 hn0).1).trans hn0; have hm1 := (hb14.block _ (Array.getElem?_eq_some_iff.1 hn1).1).trans hn1; obtain ⟨c1, c2, c3, c4⟩ := two_facts hm0; obtain ⟨c5, c6, c7, c8⟩ := two_facts hm1; obtain ⟨A1, n1, k1, rfl, hu1⟩ := hu; obtain ⟨A2, n2, k2, rfl, hv1⟩ := hv))
  have hs0 := store_two hm0 (.bool (decide (x < 0))) (.slice A1 n1 k1)
  have hs1 := (two_far (b := w.heap.size + 1) (b' := w.heap.size) (by omega) (.bool (decide (x < 0))) (.slice A1 n1 k1)).trans hm1
  have hu2 := (hu1.below hb4).storeTwo hm0 (fun _ _ e => by cases e) (fun _ _ e => by cases e) (.bool (decide (x < 0))) (.slice A1 n1 k1) (fun _ _ e => by cases e)
  have hv2 := hv1.storeTwo hm0 (fun _ _ e => by cases e) (fun _ _ e => by cases e) (.bool (decide (x < 0))) (.slice A1 n1 k1) (fun _ _ e => by cases e)
  have hB5 := ((hB0.trans (hb14.mono hB0.size)).setCell (p := ⟨w.heap.size, 0, none⟩) (by simp) (.bool (decide (x < 0)))).setCell (p := ⟨w.heap.size, 1, none⟩) (by simp) (.slice A1 n1 k1)
  generalize ((w4.setCell ⟨w.heap.size, 0, none⟩ (.bool (decide (x < 0)))).setCell ⟨w.heap.size, 1, none⟩ (.slice A1 n1 k1)) = w5 at *
  have ht0 := (two_far (b := w.heap.size) (b' := w.heap.size + 1) (by omega) (.bool (decide (y < 0))) (.slice A2 n2 k2)).trans hs0
  have ht1 := store_two hs1 (.bool (decide (y < 0))) (.slice A2 n2 k2)
  have hu3 := hu2.storeTwo hs1 (fun _ _ e => by cases e) (fun _ _ e => by cases e) (.bool (decide (y < 0))) (.slice A2 n2 k2) (fun _ _ e => by cases e)
  have hv3 := hv2.storeTwo hs1 (fun _ _ e => by cases e) (fun _ _ e => by cases e) (.bool (decide (y < 0))) (.slice A2 n2 k2) (fun _ _ e => by cases e)
  have hB6 := (hB5.setCell (p := ⟨w.heap.size + 1, 0, none⟩) (by simp) (.bool (decide (y < 0)))).setCell (p := ⟨w.heap.size + 1, 1, none⟩) (by simp) (.slice A2 n2 k2)
  generalize ((w5.setCell ⟨w.heap.size + 1, 0, none⟩ (.bool (decide (y < 0)))).setCell ⟨w.heap.size + 1, 1, none⟩ (.slice A2 n2 k2)) = w6 at *
  obtain ⟨f1, f2, _, _⟩ := two_facts ht0
  obtain ⟨f3, f4, _, _⟩ := two_facts ht1
  refine bodyPost_ret (v := .tuple #[.agg #[.bool (decide (x < 0)), .slice A1 n1 k1], .agg #[.bool (decide (y < 0)), .slice A2 n2 k2], .bool true]) ?res rfl ?_
  case res => simp [results, Tryz.f121, go_sem, f1, f2, f3, f4]
  exact ⟨_, _, rfl, ⟨A1, n1, k1, rfl, hu3⟩, ⟨A2, n2, k2, rfl, hv3⟩, hB6⟩

end Go.Proofs.YtngohpgkceedeaaGreatDoor

namespace Go.Proofs.YtngohpgkceedeaaGreatDoor
open Go Go.RowKit Go.Lib Go.Shelf

/-- The integer that a sign and an absolute value are. -/
def sv (neg : Bool) (x : Nat) : Int := if neg then -(x : Int) else x
theorem sv_abs (z : Int) : sv (decide (z < 0)) z.natAbs = z := by
  unfold sv
  by_cases h : z < 0
  · simp [h]; omega
  · simp [h]; omega
theorem three_new (w : World) (u v r : Array Value) (t : TypeId) :
    (((w.alloc (.cells u t)).alloc (.cells v t)).alloc (.cells r t)).heap[w.heap.size]? = some (.cells u t (0, 0)) ∧ (((w.alloc (.cells u t)).alloc (.cells v t)).alloc (.cells r t)).heap[w.heap.size + 1]? = some (.cells v t (0, 0))
      ∧ (((w.alloc (.cells u t)).alloc (.cells v t)).alloc (.cells r t)).heap[w.heap.size + 1 + 1]? = some (.cells r t (0, 0)) ∧ Below w.heap.size w (((w.alloc (.cells u t)).alloc (.cells v t)).alloc (.cells r t)) := by
  refine ⟨?_, ?_, ?_, (((Below.refl _ w).alloc (Nat.le_refl _) _).alloc (by simp) _).alloc (by simp; omega) _⟩
  · rw [Below.heap_alloc _ _ _ (by simp; omega), Below.heap_alloc _ _ _ (by simp)]
    exact heap_alloc_new _ _
  · rw [Below.heap_alloc _ _ _ (by simp)]
    have : w.heap.size + 1 = (w.alloc (.cells u t)).heap.size := by simp
    rw [this]
    exact heap_alloc_new _ _
  · have : w.heap.size + 1 + 1 = ((w.alloc (.cells u t)).alloc (.cells v t)).heap.size := by simp
    rw [this]
    exact heap_alloc_new _ _

set_option maxRecDepth 100000 in
set_option maxHeartbeats 1000000 in
theorem splus_any (u v : Value) (nu nv : Bool) (x y : Nat) (w : World) (hu : IsSig w u nu x) (hv : IsSig w v nv y) (hx : Mod x) (hy : Mod y) :
    Calls Tryz.prog 137 #[u, v] w fun e w' => ∃ r nr z, e = .returned r ∧ IsSig w' r nr z ∧ sv nr z = sv nu x + sv nv y ∧ Below w.heap.size w w' := by
  have hmx : Tryz.prog.follows .mixedOrders = true := by kernel_rfl
  obtain ⟨A1, n1, k1, rfl, hu⟩ := hu
  obtain ⟨A2, n2, k2, rfl, hv⟩ := hv
  obtain ⟨hn0, hn1, hn2, hB0⟩ := three_new w #[.bool nu, .slice A1 n1 k1] #[.bool nv, .slice A2 n2 k2] #[.bool false, .slice none 0 0] 137
  have hu0 := hu.below hB0
  have hv0 := hv.below hB0
  obtain ⟨c1, c2, _, _⟩ := two_facts hn0
  obtain ⟨c3, c4, _, _⟩ := two_facts hn1
  cases nu <;> cases nv
  · have hsum : sv false (x + y) = sv false x + sv false y := by simp [sv]; try omega
    go_enter Tryz.func137, Tryz.ntmps137
    go_wp2
    generalize (((w.alloc (.cells #[.bool false, .slice A1 n1 k1] 137)).alloc (.cells #[.bool false, .slice A2 n2 k2] 137)).alloc (.cells #[.bool false, .slice none 0 0] 137)) = W0 at *
    go_region_held3 (fun X => X.cell? ⟨w.heap.size, 0, none⟩ = some (.bool false) ∧ X.cell? ⟨w.heap.size, 1, none⟩ = some (.slice A1 n1 k1) ∧ X.cell? ⟨w.heap.size + 1, 0, none⟩ = some (.bool false) ∧ X.cell? ⟨w.heap.size + 1, 1, none⟩ = some (.slice A2 n2 k2)) (first | exact ⟨c1, c2, c3, c4⟩ | exact ⟨d1, d2, d3, d4⟩ | (refine ⟨?_, ?_, ?_, ?_⟩ <;> (rw [World.cell?_setCell_other _ _ _ _ (by simp <;> omega), World.cell?_setCell_other _ _ _ _ (by simp <;> omega)]; first | exact d1 | exact d2 | exact d3 | exact d4))) (first | (go_at_call 123; refine (plus_any A1 A2 n1 k1 n2 k2 x y _ (by exact hu0) (by exact hv0) hx hy).mono ?_; rintro e W2 ⟨A3, n3, k3, rfl, h3, hb3'⟩; have hb3 := below_of_drew hb3'; have g0 := (hb3.block _ (Array.getElem?_eq_some_iff.1 hn0).1).trans hn0; have g1 := (hb3.block _ (Array.getElem?_eq_some_iff.1 hn1).1).trans hn1; have g2 := (hb3.block _ (Array.getElem?_eq_some_iff.1 hn2).1).trans hn2; obtain ⟨d1, d2, _, _⟩ := two_facts g0; obtain ⟨d3, d4, _, _⟩ := two_facts g1; obtain ⟨d5, d6, d7, d8⟩ := two_facts g2))
    go_wp2
    have hB3 := hB0.trans (hb3.mono hB0.size)
    have hst := store_two g2 (.bool false) (.slice A3 n3 k3)
    have hnn := h3.storeTwo g2 (fun _ _ e => by cases e) (fun _ _ e => by cases e) (.bool false) (.slice A3 n3 k3) (fun _ _ e => by cases e)
    have hB4 := (hB3.setCell (p := ⟨w.heap.size + 1 + 1, 0, none⟩) (by simp; omega) (.bool false)).setCell (p := ⟨w.heap.size + 1 + 1, 1, none⟩) (by simp; omega) (.slice A3 n3 k3)
    generalize ((W2.setCell ⟨w.heap.size + 1 + 1, 0, none⟩ (.bool false)).setCell ⟨w.heap.size + 1 + 1, 1, none⟩ (.slice A3 n3 k3)) = Wf at *
    obtain ⟨f1, f2, _, _⟩ := two_facts hst
    refine bodyPost_ret (v := .agg #[.bool false, .slice A3 n3 k3]) ?res rfl ?_
    case res => simp [results, Tryz.f137, go_sem, f1, f2]
    exact ⟨_, false, (x + y), rfl, ⟨A3, n3, k3, rfl, hnn⟩, hsum, hB4⟩
  · by_cases hxy : y ≤ x
    · have hsum : sv false (x - y) = sv false x + sv true y := by simp [sv]; try omega
      have hcz : 0 ≤ cmpZ x y := by unfold cmpZ; split <;> (try split) <;> omega
      go_enter Tryz.func137, Tryz.ntmps137
      go_wp2_with (go_at_call 127; generalize (((w.alloc (.cells #[.bool false, .slice A1 n1 k1] 137)).alloc (.cells #[.bool true, .slice A2 n2 k2] 137)).alloc (.cells #[.bool false, .slice none 0 0] 137)) = W0 at *; refine (compare_any A1 A2 n1 k1 n2 k2 x y _ hu0 hv0 hx hy).mono ?_; rintro e W1 ⟨rfl, hb1⟩; have hn0 := (hb1.block _ (Array.getElem?_eq_some_iff.1 hn0).1).trans hn0; have hn1 := (hb1.block _ (Array.getElem?_eq_some_iff.1 hn1).1).trans hn1; have hn2 := (hb1.block _ (Array.getElem?_eq_some_iff.1 hn2).1).trans hn2; have hu0 := hu0.below hb1; have hv0 := hv0.below hb1; have hB0 := hB0.trans (hb1.mono hB0.size); obtain ⟨c1, c2, _, _⟩ := two_facts hn0; obtain ⟨c3, c4, _, _⟩ := two_facts hn1)
      go_region_held3 (fun X => X.cell? ⟨w.heap.size, 0, none⟩ = some (.bool false) ∧ X.cell? ⟨w.heap.size, 1, none⟩ = some (.slice A1 n1 k1) ∧ X.cell? ⟨w.heap.size + 1, 0, none⟩ = some (.bool true) ∧ X.cell? ⟨w.heap.size + 1, 1, none⟩ = some (.slice A2 n2 k2)) (first | exact ⟨c1, c2, c3, c4⟩ | exact ⟨d1, d2, d3, d4⟩ | (refine ⟨?_, ?_, ?_, ?_⟩ <;> (rw [World.cell?_setCell_other _ _ _ _ (by simp <;> omega), World.cell?_setCell_other _ _ _ _ (by simp <;> omega)]; first | exact d1 | exact d2 | exact d3 | exact d4))) (first | (go_at_call 125; refine (minus_any A1 A2 n1 k1 n2 k2 x y _ (by exact hu0) (by exact hv0) hx hy hxy).mono ?_; rintro e W2 ⟨A3, n3, k3, rfl, h3, hb3'⟩; have hb3 := below_of_drew hb3'; have g0 := (hb3.block _ (Array.getElem?_eq_some_iff.1 hn0).1).trans hn0; have g1 := (hb3.block _ (Array.getElem?_eq_some_iff.1 hn1).1).trans hn1; have g2 := (hb3.block _ (Array.getElem?_eq_some_iff.1 hn2).1).trans hn2; obtain ⟨d1, d2, _, _⟩ := two_facts g0; obtain ⟨d3, d4, _, _⟩ := two_facts g1; obtain ⟨d5, d6, d7, d8⟩ := two_facts g2))
      go_wp2
      have hB3 := hB0.trans (hb3.mono hB0.size)
      have hst := store_two g2 (.bool false) (.slice A3 n3 k3)
      have hnn := h3.storeTwo g2 (fun _ _ e => by cases e) (fun _ _ e => by cases e) (.bool false) (.slice A3 n3 k3) (fun _ _ e => by cases e)
      have hB4 := (hB3.setCell (p := ⟨w.heap.size + 1 + 1, 0, none⟩) (by simp; omega) (.bool false)).setCell (p := ⟨w.heap.size + 1 + 1, 1, none⟩) (by simp; omega) (.slice A3 n3 k3)
      generalize ((W2.setCell ⟨w.heap.size + 1 + 1, 0, none⟩ (.bool false)).setCell ⟨w.heap.size + 1 + 1, 1, none⟩ (.slice A3 n3 k3)) = Wf at *
      obtain ⟨f1, f2, _, _⟩ := two_facts hst
      refine bodyPost_ret (v := .agg #[.bool false, .slice A3 n3 k3]) ?res rfl ?_
      case res => simp [results, Tryz.f137, go_sem, f1, f2]
      exact ⟨_, false, (x - y), rfl, ⟨A3, n3, k3, rfl, hnn⟩, hsum, hB4⟩
    · have hsum : sv true (y - x) = sv false x + sv true y := by simp [sv]; try omega
      have hcz : cmpZ x y < 0 := by unfold cmpZ; split <;> (try split) <;> omega
      go_enter Tryz.func137, Tryz.ntmps137
      go_wp2_with (go_at_call 127; generalize (((w.alloc (.cells #[.bool false, .slice A1 n1 k1] 137)).alloc (.cells #[.bool true, .slice A2 n2 k2] 137)).alloc (.cells #[.bool false, .slice none 0 0] 137)) = W0 at *; refine (compare_any A1 A2 n1 k1 n2 k2 x y _ hu0 hv0 hx hy).mono ?_; rintro e W1 ⟨rfl, hb1⟩; have hn0 := (hb1.block _ (Array.getElem?_eq_some_iff.1 hn0).1).trans hn0; have hn1 := (hb1.block _ (Array.getElem?_eq_some_iff.1 hn1).1).trans hn1; have hn2 := (hb1.block _ (Array.getElem?_eq_some_iff.1 hn2).1).trans hn2; have hu0 := hu0.below hb1; have hv0 := hv0.below hb1; have hB0 := hB0.trans (hb1.mono hB0.size); obtain ⟨c1, c2, _, _⟩ := two_facts hn0; obtain ⟨c3, c4, _, _⟩ := two_facts hn1)
      go_region_held3 (fun X => X.cell? ⟨w.heap.size, 0, none⟩ = some (.bool false) ∧ X.cell? ⟨w.heap.size, 1, none⟩ = some (.slice A1 n1 k1) ∧ X.cell? ⟨w.heap.size + 1, 0, none⟩ = some (.bool true) ∧ X.cell? ⟨w.heap.size + 1, 1, none⟩ = some (.slice A2 n2 k2)) (first | exact ⟨c1, c2, c3, c4⟩ | exact ⟨d1, d2, d3, d4⟩ | (refine ⟨?_, ?_, ?_, ?_⟩ <;> (rw [World.cell?_setCell_other _ _ _ _ (by simp <;> omega), World.cell?_setCell_other _ _ _ _ (by simp <;> omega)]; first | exact d1 | exact d2 | exact d3 | exact d4))) (first | (go_at_call 125; refine (minus_any A2 A1 n2 k2 n1 k1 y x _ (by exact hv0) (by exact hu0) hy hx (by omega)).mono ?_; rintro e W2 ⟨A3, n3, k3, rfl, h3, hb3'⟩; have hb3 := below_of_drew hb3'; have g0 := (hb3.block _ (Array.getElem?_eq_some_iff.1 hn0).1).trans hn0; have g1 := (hb3.block _ (Array.getElem?_eq_some_iff.1 hn1).1).trans hn1; have g2 := (hb3.block _ (Array.getElem?_eq_some_iff.1 hn2).1).trans hn2; obtain ⟨d1, d2, _, _⟩ := two_facts g0; obtain ⟨d3, d4, _, _⟩ := two_facts g1; obtain ⟨d5, d6, d7, d8⟩ := two_facts g2))
      go_wp2
      have hB3 := hB0.trans (hb3.mono hB0.size)
      have hst := store_two g2 (.bool true) (.slice A3 n3 k3)
      have hnn := h3.storeTwo g2 (fun _ _ e => by cases e) (fun _ _ e => by cases e) (.bool true) (.slice A3 n3 k3) (fun _ _ e => by cases e)
      have hB4 := (hB3.setCell (p := ⟨w.heap.size + 1 + 1, 0, none⟩) (by simp; omega) (.bool true)).setCell (p := ⟨w.heap.size + 1 + 1, 1, none⟩) (by simp; omega) (.slice A3 n3 k3)
      generalize ((W2.setCell ⟨w.heap.size + 1 + 1, 0, none⟩ (.bool true)).setCell ⟨w.heap.size + 1 + 1, 1, none⟩ (.slice A3 n3 k3)) = Wf at *
      obtain ⟨f1, f2, _, _⟩ := two_facts hst
      refine bodyPost_ret (v := .agg #[.bool true, .slice A3 n3 k3]) ?res rfl ?_
      case res => simp [results, Tryz.f137, go_sem, f1, f2]
      exact ⟨_, true, (y - x), rfl, ⟨A3, n3, k3, rfl, hnn⟩, hsum, hB4⟩
  · by_cases hxy : y ≤ x
    · have hsum : sv true (x - y) = sv true x + sv false y := by simp [sv]; try omega
      have hcz : 0 ≤ cmpZ x y := by unfold cmpZ; split <;> (try split) <;> omega
      go_enter Tryz.func137, Tryz.ntmps137
      go_wp2_with (go_at_call 127; generalize (((w.alloc (.cells #[.bool true, .slice A1 n1 k1] 137)).alloc (.cells #[.bool false, .slice A2 n2 k2] 137)).alloc (.cells #[.bool false, .slice none 0 0] 137)) = W0 at *; refine (compare_any A1 A2 n1 k1 n2 k2 x y _ hu0 hv0 hx hy).mono ?_; rintro e W1 ⟨rfl, hb1⟩; have hn0 := (hb1.block _ (Array.getElem?_eq_some_iff.1 hn0).1).trans hn0; have hn1 := (hb1.block _ (Array.getElem?_eq_some_iff.1 hn1).1).trans hn1; have hn2 := (hb1.block _ (Array.getElem?_eq_some_iff.1 hn2).1).trans hn2; have hu0 := hu0.below hb1; have hv0 := hv0.below hb1; have hB0 := hB0.trans (hb1.mono hB0.size); obtain ⟨c1, c2, _, _⟩ := two_facts hn0; obtain ⟨c3, c4, _, _⟩ := two_facts hn1)
      go_region_held3 (fun X => X.cell? ⟨w.heap.size, 0, none⟩ = some (.bool true) ∧ X.cell? ⟨w.heap.size, 1, none⟩ = some (.slice A1 n1 k1) ∧ X.cell? ⟨w.heap.size + 1, 0, none⟩ = some (.bool false) ∧ X.cell? ⟨w.heap.size + 1, 1, none⟩ = some (.slice A2 n2 k2)) (first | exact ⟨c1, c2, c3, c4⟩ | exact ⟨d1, d2, d3, d4⟩ | (refine ⟨?_, ?_, ?_, ?_⟩ <;> (rw [World.cell?_setCell_other _ _ _ _ (by simp <;> omega), World.cell?_setCell_other _ _ _ _ (by simp <;> omega)]; first | exact d1 | exact d2 | exact d3 | exact d4))) (first | (go_at_call 125; refine (minus_any A1 A2 n1 k1 n2 k2 x y _ (by exact hu0) (by exact hv0) hx hy hxy).mono ?_; rintro e W2 ⟨A3, n3, k3, rfl, h3, hb3'⟩; have hb3 := below_of_drew hb3'; have g0 := (hb3.block _ (Array.getElem?_eq_some_iff.1 hn0).1).trans hn0; have g1 := (hb3.block _ (Array.getElem?_eq_some_iff.1 hn1).1).trans hn1; have g2 := (hb3.block _ (Array.getElem?_eq_some_iff.1 hn2).1).trans hn2; obtain ⟨d1, d2, _, _⟩ := two_facts g0; obtain ⟨d3, d4, _, _⟩ := two_facts g1; obtain ⟨d5, d6, d7, d8⟩ := two_facts g2))
      go_wp2
      have hB3 := hB0.trans (hb3.mono hB0.size)
      have hst := store_two g2 (.bool true) (.slice A3 n3 k3)
      have hnn := h3.storeTwo g2 (fun _ _ e => by cases e) (fun _ _ e => by cases e) (.bool true) (.slice A3 n3 k3) (fun _ _ e => by cases e)
      have hB4 := (hB3.setCell (p := ⟨w.heap.size + 1 + 1, 0, none⟩) (by simp; omega) (.bool true)).setCell (p := ⟨w.heap.size + 1 + 1, 1, none⟩) (by simp; omega) (.slice A3 n3 k3)
      generalize ((W2.setCell ⟨w.heap.size + 1 + 1, 0, none⟩ (.bool true)).setCell ⟨w.heap.size + 1 + 1, 1, none⟩ (.slice A3 n3 k3)) = Wf at *
      obtain ⟨f1, f2, _, _⟩ := two_facts hst
      refine bodyPost_ret (v := .agg #[.bool true, .slice A3 n3 k3]) ?res rfl ?_
      case res => simp [results, Tryz.f137, go_sem, f1, f2]
      exact ⟨_, true, (x - y), rfl, ⟨A3, n3, k3, rfl, hnn⟩, hsum, hB4⟩
    · have hsum : sv false (y - x) = sv true x + sv false y := by simp [sv]; try omega
      have hcz : cmpZ x y < 0 := by unfold cmpZ; split <;> (try split) <;> omega
      go_enter Tryz.func137, Tryz.ntmps137
      go_wp2_with (go_at_call 127; generalize (((w.alloc (.cells #[.bool true, .slice A1 n1 k1] 137)).alloc (.cells #[.bool false, .slice A2 n2 k2] 137)).alloc (.cells #[.bool false, .slice none 0 0] 137)) = W0 at *; refine (compare_any A1 A2 n1 k1 n2 k2 x y _ hu0 hv0 hx hy).mono ?_; rintro e W1 ⟨rfl, hb1⟩; have hn0 := (hb1.block _ (Array.getElem?_eq_some_iff.1 hn0).1).trans hn0; have hn1 := (hb1.block _ (Array.getElem?_eq_some_iff.1 hn1).1).trans hn1; have hn2 := (hb1.block _ (Array.getElem?_eq_some_iff.1 hn2).1).trans hn2; have hu0 := hu0.below hb1; have hv0 := hv0.below hb1; have hB0 := hB0.trans (hb1.mono hB0.size); obtain ⟨c1, c2, _, _⟩ := two_facts hn0; obtain ⟨c3, c4, _, _⟩ := two_facts hn1)
      go_region_held3 (fun X => X.cell? ⟨w.heap.size, 0, none⟩ = some (.bool true) ∧ X.cell? ⟨w.heap.size, 1, none⟩ = some (.slice A1 n1 k1) ∧ X.cell? ⟨w.heap.size + 1, 0, none⟩ = some (.bool false) ∧ X.cell? ⟨w.heap.size + 1, 1, none⟩ = some (.slice A2 n2 k2)) (first | exact ⟨c1, c2, c3, c4⟩ | exact ⟨d1, d2, d3, d4⟩ | (refine ⟨?_, ?_, ?_, ?_⟩ <;> (rw [World.cell?_setCell_other _ _ _ _ (by simp <;> omega), World.cell?_setCell_other _ _ _ _ (by simp <;> omega)]; first | exact d1 | exact d2 | exact d3 | exact d4))) (first | (go_at_call 125; refine (minus_any A2 A1 n2 k2 n1 k1 y x _ (by exact hv0) (by exact hu0) hy hx (by omega)).mono ?_; rintro e W2 ⟨A3, n3, k3, rfl, h3, hb3'⟩; have hb3 := below_of_drew hb3'; have g0 := (hb3.block _ (Array.getElem?_eq_some_iff.1 hn0).1).trans hn0; have g1 := (hb3.block _ (Array.getElem?_eq_some_iff.1 hn1).1).trans hn1; have g2 := (hb3.block _ (Array.getElem?_eq_some_iff.1 hn2).1).trans hn2; obtain ⟨d1, d2, _, _⟩ := two_facts g0; obtain ⟨d3, d4, _, _⟩ := two_facts g1; obtain ⟨d5, d6, d7, d8⟩ := two_facts g2))
      go_wp2
      have hB3 := hB0.trans (hb3.mono hB0.size)
      have hst := store_two g2 (.bool false) (.slice A3 n3 k3)
      have hnn := h3.storeTwo g2 (fun _ _ e => by cases e) (fun _ _ e => by cases e) (.bool false) (.slice A3 n3 k3) (fun _ _ e => by cases e)
      have hB4 := (hB3.setCell (p := ⟨w.heap.size + 1 + 1, 0, none⟩) (by simp; omega) (.bool false)).setCell (p := ⟨w.heap.size + 1 + 1, 1, none⟩) (by simp; omega) (.slice A3 n3 k3)
      generalize ((W2.setCell ⟨w.heap.size + 1 + 1, 0, none⟩ (.bool false)).setCell ⟨w.heap.size + 1 + 1, 1, none⟩ (.slice A3 n3 k3)) = Wf at *
      obtain ⟨f1, f2, _, _⟩ := two_facts hst
      refine bodyPost_ret (v := .agg #[.bool false, .slice A3 n3 k3]) ?res rfl ?_
      case res => simp [results, Tryz.f137, go_sem, f1, f2]
      exact ⟨_, false, (y - x), rfl, ⟨A3, n3, k3, rfl, hnn⟩, hsum, hB4⟩
  · have hsum : sv true (x + y) = sv true x + sv true y := by simp [sv]; try omega
    go_enter Tryz.func137, Tryz.ntmps137
    go_wp2
    generalize (((w.alloc (.cells #[.bool true, .slice A1 n1 k1] 137)).alloc (.cells #[.bool true, .slice A2 n2 k2] 137)).alloc (.cells #[.bool false, .slice none 0 0] 137)) = W0 at *
    go_region_held3 (fun X => X.cell? ⟨w.heap.size, 0, none⟩ = some (.bool true) ∧ X.cell? ⟨w.heap.size, 1, none⟩ = some (.slice A1 n1 k1) ∧ X.cell? ⟨w.heap.size + 1, 0, none⟩ = some (.bool true) ∧ X.cell? ⟨w.heap.size + 1, 1, none⟩ = some (.slice A2 n2 k2)) (first | exact ⟨c1, c2, c3, c4⟩ | exact ⟨d1, d2, d3, d4⟩ | (refine ⟨?_, ?_, ?_, ?_⟩ <;> (rw [World.cell?_setCell_other _ _ _ _ (by simp <;> omega), World.cell?_setCell_other _ _ _ _ (by simp <;> omega)]; first | exact d1 | exact d2 | exact d3 | exact d4))) (first | (go_at_call 123; refine (plus_any A1 A2 n1 k1 n2 k2 x y _ (by exact hu0) (by exact hv0) hx hy).mono ?_; rintro e W2 ⟨A3, n3, k3, rfl, h3, hb3'⟩; have hb3 := below_of_drew hb3'; have g0 := (hb3.block _ (Array.getElem?_eq_some_iff.1 hn0).1).trans hn0; have g1 := (hb3.block _ (Array.getElem?_eq_some_iff.1 hn1).1).trans hn1; have g2 := (hb3.block _ (Array.getElem?_eq_some_iff.1 hn2).1).trans hn2; obtain ⟨d1, d2, _, _⟩ := two_facts g0; obtain ⟨d3, d4, _, _⟩ := two_facts g1; obtain ⟨d5, d6, d7, d8⟩ := two_facts g2))
    go_wp2
    have hB3 := hB0.trans (hb3.mono hB0.size)
    have hst := store_two g2 (.bool true) (.slice A3 n3 k3)
    have hnn := h3.storeTwo g2 (fun _ _ e => by cases e) (fun _ _ e => by cases e) (.bool true) (.slice A3 n3 k3) (fun _ _ e => by cases e)
    have hB4 := (hB3.setCell (p := ⟨w.heap.size + 1 + 1, 0, none⟩) (by simp; omega) (.bool true)).setCell (p := ⟨w.heap.size + 1 + 1, 1, none⟩) (by simp; omega) (.slice A3 n3 k3)
    generalize ((W2.setCell ⟨w.heap.size + 1 + 1, 0, none⟩ (.bool true)).setCell ⟨w.heap.size + 1 + 1, 1, none⟩ (.slice A3 n3 k3)) = Wf at *
    obtain ⟨f1, f2, _, _⟩ := two_facts hst
    refine bodyPost_ret (v := .agg #[.bool true, .slice A3 n3 k3]) ?res rfl ?_
    case res => simp [results, Tryz.f137, go_sem, f1, f2]
    exact ⟨_, true, (x + y), rfl, ⟨A3, n3, k3, rfl, hnn⟩, hsum, hB4⟩
end Go.Proofs.YtngohpgkceedeaaGreatDoor
