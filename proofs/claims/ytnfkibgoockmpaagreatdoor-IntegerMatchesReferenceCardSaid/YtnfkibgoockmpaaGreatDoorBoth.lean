/-
  both: two valid strings are two numbers.
-/
import Derived.Test.YtnfkibgoockmpaaGreatDoorParse
namespace Go.Proofs.YtnfkibgoockmpaaGreatDoor
open Go Go.RowKit Go.Lib Go.Shelf

/-- A number with its sign. -/
def IsSig (w : World) (v : Value) (neg : Bool) (x : Nat) : Prop := ∃ A n c, v = .agg #[.bool neg, .slice A n c] ∧ IsNum w A n c x
theorem IsSig.below {w w' : World} {v : Value} {neg : Bool} {x : Nat} (h : IsSig w v neg x) (hb : Below w.heap.size w w') : IsSig w' v neg x :=
  let ⟨A, n, c, e, hn⟩ := h; ⟨A, n, c, e, hn.below hb⟩
theorem two_facts {W : World} {b : Nat} {v0 v1 : Value} {t : TypeId} (h : W.heap[b]? = some (.cells #[v0, v1] t (0, 0))) :
    W.cell? ⟨b, 0, none⟩ = some v0 ∧ W.cell? ⟨b, 1, none⟩ = some v1 ∧ W.frozen? ⟨b, 0, none⟩ = false ∧ W.frozen? ⟨b, 1, none⟩ = false :=
  ⟨cell_of_row _ _ 0 _ _ _ h, cell_of_row _ _ 1 _ _ _ h, frozen_of_row _ _ 0 _ _ h, frozen_of_row _ _ 1 _ _ h⟩
theorem IsNum.setCells {W : World} {A : Option Addr} {n c x : Nat} (h : IsNum W A n c x) {b i : Nat} {cs : List Value} {t : TypeId} (hb : W.heap[b]? = some (.cells cs.toArray t (0, 0)))
    (hv : ∀ v ∈ cs, ∀ a y, v ≠ .int a y) (u : Value) : IsNum (W.setCell ⟨b, i, none⟩ u) A n c x := by
  obtain ⟨l, h1, h2, h3, h4⟩ := h
  refine ⟨l, ⟨h1.1, fun hn => ?_⟩, h2, h3, h4⟩
  obtain ⟨ad, e, hlt, hc⟩ := h1.2 hn
  refine ⟨ad, e, by simpa [World.setCell] using hlt, fun j u' hu => ?_⟩
  have hcell := hc j u' hu
  by_cases he : (ad.add j).block = b
  · exfalso
    have hu2 : ∃ a y, u' = .int a y := by
      unfold ints at hu
      rw [List.getElem?_map] at hu
      cases hl : l[j]? with
      | none => rw [hl] at hu; cases hu
      | some y => rw [hl] at hu; simp at hu; exact ⟨_, _, hu.symm⟩
    obtain ⟨a', y', rfl⟩ := hu2
    unfold World.cell? at hcell
    rw [he, hb] at hcell
    simp only at hcell
    split at hcell
    · cases hcell
    · rw [List.getElem?_toArray] at hcell
      exact hv _ (List.mem_of_getElem? hcell) _ _ rfl
  · rw [World.cell?_setCell_other W _ _ u (fun e => he (by rw [← e]))]
    exact hcell
theorem store_two {W : World} {b : Nat} {v0 v1 : Value} {t : TypeId} (h : W.heap[b]? = some (.cells #[v0, v1] t (0, 0))) (u0 u1 : Value) :
    ((W.setCell ⟨b, 0, none⟩ u0).setCell ⟨b, 1, none⟩ u1).heap[b]? = some (.cells #[u0, u1] t (0, 0)) := by
  simp [World.setCell, Array.getElem?_modify, h]
theorem IsNum.storeTwo {W : World} {A : Option Addr} {n c x : Nat} (h : IsNum W A n c x) {b : Nat} {v0 v1 : Value} {t : TypeId} (hb : W.heap[b]? = some (.cells #[v0, v1] t (0, 0)))
    (h0 : ∀ a y, v0 ≠ .int a y) (h1 : ∀ a y, v1 ≠ .int a y) (u0 u1 : Value) (hu : ∀ a y, u0 ≠ .int a y) : IsNum ((W.setCell ⟨b, 0, none⟩ u0).setCell ⟨b, 1, none⟩ u1) A n c x := by
  refine IsNum.setCells (cs := [u0, v1]) (IsNum.setCells (cs := [v0, v1]) h hb ?_ u0) (t := t) (by simp [World.setCell, Array.getElem?_modify, hb]) ?_ u1
  · intro v hv; simp at hv; rcases hv with rfl | rfl <;> assumption
  · intro v hv; simp at hv; rcases hv with rfl | rfl <;> assumption
theorem two_far {W : World} {b b' : Nat} (hne : b ≠ b') (u0 u1 : Value) : ((W.setCell ⟨b', 0, none⟩ u0).setCell ⟨b', 1, none⟩ u1).heap[b]? = W.heap[b]? := by
  rw [Below.heap_setCell _ _ _ _ hne, Below.heap_setCell _ _ _ _ hne]
theorem size_list (s : ByteArray) : s.size = s.data.toList.length := by rw [Array.length_toList]; rfl
theorem itoa_length (z : Int) : decide ((decDigits z.natAbs).length < (itoa z).length) = decide (z < 0) := by
  congr 1
  rcases Int.lt_or_le z 0 with h | h
  · have e : z = -(z.natAbs : Int) := by omega
    have : (itoa z).length = (decDigits z.natAbs).length + 1 := by
      rw [e, itoa_ng _ (by omega)]; simp
    rw [this]
    simp [h]
  · have e : z = (z.natAbs : Int) := by omega
    have : (itoa z).length = (decDigits z.natAbs).length := by
      conv => lhs; rw [e]
      rw [itoa_nn]
    rw [this]
    have h2 : ¬ z < 0 := by omega
    simp [h2]
/-- parse, at a number. -/
theorem parse_z (s : ByteArray) (z : Int) (w : World) (hs : s.data.toList = itoa z) (hf : Fits z) :
    Calls Tryz.prog 59 #[.string s] w fun e w' => ∃ v, e = .returned v ∧ IsSig w' v (decide (z < 0)) z.natAbs ∧ Below w.heap.size w w' := by
  have hb : body s.data.toList = decDigits z.natAbs := by rw [hs, body_itoa]
  refine (parse_any s w (by rw [hb]; exact decDigits_dig _) (by rw [hb]; exact (fits_iff z).2 hf)).mono ?_
  rintro e w' ⟨A, n, c, rfl, hn, hB⟩
  rw [hb, evalD_decDigits] at hn
  refine ⟨_, rfl, ⟨A, n, c, ?_, hn⟩, hB⟩
  rw [hb, size_list, hs, itoa_length]
theorem isValid_true (s : ByteArray) (w : World) (hs : s.size ≤ 9223372036854775807) (hv : validB s.data.toList = true) :
    Calls Tryz.prog 47 #[.string s] w fun e w' => e = .returned (.bool true) ∧ Below w.heap.size w w' := by
  have := isValid_any s w hs
  rwa [hv] at this
theorem isValid_false (s : ByteArray) (w : World) (hs : s.size ≤ 9223372036854775807) (hv : validB s.data.toList = false) :
    Calls Tryz.prog 47 #[.string s] w fun e w' => e = .returned (.bool false) ∧ Below w.heap.size w w' := by
  have := isValid_any s w hs
  rwa [hv] at this
theorem two_new (w : World) (v : Array Value) (t : TypeId) : ((w.alloc (.cells v t)).alloc (.cells v t)).heap[w.heap.size]? = some (.cells v t (0, 0)) ∧ ((w.alloc (.cells v t)).alloc (.cells v t)).heap[w.heap.size + 1]? = some (.cells v t (0, 0)) := by
  constructor
  · rw [Below.heap_alloc _ _ _ (by simp)]
    exact heap_alloc_new _ _
  · have : w.heap.size + 1 = (w.alloc (.cells v t)).heap.size := by simp
    rw [this]
    exact heap_alloc_new _ _

set_option maxRecDepth 100000 in
set_option maxHeartbeats 1000000 in
theorem both_ok (a b : ByteArray) (x y : Int) (w : World) (ha : a.data.toList = itoa x) (hb : b.data.toList = itoa y) (hx : Fits x) (hy : Fits y)
    (hsa : a.size ≤ 9223372036854775807) (hsb : b.size ≤ 9223372036854775807) :
    Calls Tryz.prog 38 #[.string a, .string b] w fun e w' => ∃ u v, e = .returned (.tuple #[u, v, .bool true]) ∧ IsSig w' u (decide (x < 0)) x.natAbs ∧ IsSig w' v (decide (y < 0)) y.natAbs ∧ Below w.heap.size w w' := by
  have hva : validB a.data.toList = true := by rw [ha]; exact validB_itoa x hx
  have hvb : validB b.data.toList = true := by rw [hb]; exact validB_itoa y hy
  obtain ⟨hn0, hn1⟩ := two_new w #[.bool false, .slice none 0 0] 50
  have hB0 := below2 w (.cells #[.bool false, .slice none 0 0] 50) (.cells #[.bool false, .slice none 0 0] 50)
  go_enter Tryz.func38, Tryz.ntmps38
  go_wp2_with (first
    | (go_at_call_of 47 (Value.string a); generalize ((w.alloc (.cells #[.bool false, .slice none 0 0] 50)).alloc (.cells #[.bool false, .slice none 0 0] 50)) = W0 at *; refine (isValid_true a _ hsa hva).mono ?_; rintro e w1 ⟨rfl, hb1⟩)
    | (go_at_call_of 47 (Value.string b); refine (isValid_true b _ hsb hvb).mono ?_; rintro e w2 ⟨rfl, hb2⟩)
    | (go_at_call_of 59 (Value.string a); refine (parse_z a x _ ha hx).mono ?_; rintro e w3 ⟨u, rfl, hu, hb3⟩)
    | (go_at_call_of 59 (Value.string b); refine (parse_z b y _ hb hy).mono ?_; rintro e w4 ⟨v, rfl, hv, hb4⟩; have hb14 : Below W0.heap.size W0 w4 := ((hb1.trans (hb2.mono hb1.size)).trans (hb3.mono (hb1.trans (hb2.mono hb1.size)).size)).trans (hb4.mono ((hb1.trans (hb2.mono hb1.size)).trans (hb3.mono (hb1.trans (hb2.mono hb1.size)).size)).size); have hm0 := (hb14.block _ (Array.getElem?_eq_some_iff.1 hn0).1).trans hn0; have hm1 := (hb14.block _ (Array.getElem?_eq_some_iff.1 hn1).1).trans hn1; obtain ⟨c1, c2, c3, c4⟩ := two_facts hm0; obtain ⟨c5, c6, c7, c8⟩ := two_facts hm1; obtain ⟨A1, n1, k1, rfl, hu1⟩ := hu; obtain ⟨A2, n2, k2, rfl, hv1⟩ := hv))
  have hs0 := store_two hm0 (.bool (decide (x < 0))) (.slice A1 n1 k1)
  have hs1 := (two_far (b := w.heap.size + 1) (b' := w.heap.size) (by omega) (.bool (decide (x < 0))) (.slice A1 n1 k1)).trans hm1
  have hu2 := (hu1.below hb4).storeTwo hm0 (fun _ _ e => by cases e) (fun _ _ e => by cases e) (.bool (decide (x < 0))) (.slice A1 n1 k1) (fun _ _ e => by cases e)
  have hv2 := hv1.storeTwo hm0 (fun _ _ e => by cases e) (fun _ _ e => by cases e) (.bool (decide (x < 0))) (.slice A1 n1 k1) (fun _ _ e => by cases e)
  have hB5 := ((hB0.trans (hb14.mono hB0.size)).setCell (p := ⟨w.heap.size, 0, none⟩) (by simp) (.bool (decide (x < 0)))).setCell (p := ⟨w.heap.size, 1, none⟩) (by simp) (.slice A1 n1 k1)
  generalize ((w4.setCell ⟨w.heap.size, 0, none⟩ (.bool (decide (x < 0)))).setCell ⟨w.heap.size, 1, none⟩ (.slice A1 n1 k1)) = w5 at *
  have ht0 := (two_far (b := w.heap.size) (b' := w.heap.size + 1) (by omega) (.bool (decide (y < 0))) (.slice A2 n2 k2)).trans hs0
  have ht1 := store_two hs1 (.bool (decide (y < 0))) (.slice A2 n2 k2)
  have hu3 := hu2.storeTwo hs1 (fun _ _ e => by cases e) (fun _ _ e => by cases e) (.bool (decide (y < 0))) (.slice A2 n2 k2) (fun _ _ e => by cases e)
  have hv3 := hv2.storeTwo hs1 (fun _ _ e => by cases e) (fun _ _ e => by cases e) (.bool (decide (y < 0))) (.slice A2 n2 k2) (fun _ _ e => by cases e)
  have hB6 := (hB5.setCell (p := ⟨w.heap.size + 1, 0, none⟩) (by simp) (.bool (decide (y < 0)))).setCell (p := ⟨w.heap.size + 1, 1, none⟩) (by simp) (.slice A2 n2 k2)
  generalize ((w5.setCell ⟨w.heap.size + 1, 0, none⟩ (.bool (decide (y < 0)))).setCell ⟨w.heap.size + 1, 1, none⟩ (.slice A2 n2 k2)) = w6 at *
  obtain ⟨f1, f2, _, _⟩ := two_facts ht0
  obtain ⟨f3, f4, _, _⟩ := two_facts ht1
  refine bodyPost_ret (v := .tuple #[.agg #[.bool (decide (x < 0)), .slice A1 n1 k1], .agg #[.bool (decide (y < 0)), .slice A2 n2 k2], .bool true]) ?res rfl ?_
  case res => simp [results, Tryz.f38, go_sem, f1, f2, f3, f4]
  exact ⟨_, _, rfl, ⟨A1, n1, k1, rfl, hu3⟩, ⟨A2, n2, k2, rfl, hv3⟩, hB6⟩

theorem both_zero {w W : World} {t : TypeId} (hB : Below w.heap.size w W) (hm0 : W.heap[w.heap.size]? = some (.cells #[.bool false, .slice none 0 0] t (0, 0))) (hm1 : W.heap[w.heap.size + 1]? = some (.cells #[.bool false, .slice none 0 0] t (0, 0)))
    (F : World) (hF : ((((W.setCell ⟨w.heap.size, 0, none⟩ (.bool false)).setCell ⟨w.heap.size, 1, none⟩ (.slice none 0 0)).setCell ⟨w.heap.size + 1, 0, none⟩ (.bool false)).setCell ⟨w.heap.size + 1, 1, none⟩ (.slice none 0 0)) = F) :
    F.cell? ⟨w.heap.size, 0, none⟩ = some (.bool false) ∧ F.cell? ⟨w.heap.size, 1, none⟩ = some (.slice none 0 0) ∧ F.cell? ⟨w.heap.size + 1, 0, none⟩ = some (.bool false) ∧ F.cell? ⟨w.heap.size + 1, 1, none⟩ = some (.slice none 0 0) ∧ Below w.heap.size w F := by
  subst hF
  have hs0 := store_two hm0 (.bool false) (.slice none 0 0)
  have hs1 := (two_far (b := w.heap.size + 1) (b' := w.heap.size) (by omega) (.bool false) (.slice none 0 0)).trans hm1
  have hB5 := (hB.setCell (p := ⟨w.heap.size, 0, none⟩) (by simp) (.bool false)).setCell (p := ⟨w.heap.size, 1, none⟩) (by simp) (.slice none 0 0)
  have ht0 := (two_far (b := w.heap.size) (b' := w.heap.size + 1) (by omega) (.bool false) (.slice none 0 0)).trans hs0
  have ht1 := store_two hs1 (.bool false) (.slice none 0 0)
  obtain ⟨f1, f2, _, _⟩ := two_facts ht0
  obtain ⟨f3, f4, _, _⟩ := two_facts ht1
  exact ⟨f1, f2, f3, f4, (hB5.setCell (p := ⟨w.heap.size + 1, 0, none⟩) (by simp) _).setCell (p := ⟨w.heap.size + 1, 1, none⟩) (by simp) _⟩
set_option maxRecDepth 100000 in
set_option maxHeartbeats 1000000 in
theorem both_bad (a b : ByteArray) (w : World) (hv : (validB a.data.toList && validB b.data.toList) = false)
    (hsa : a.size ≤ 9223372036854775807) (hsb : b.size ≤ 9223372036854775807) :
    Calls Tryz.prog 38 #[.string a, .string b] w fun e w' => e = .returned (.tuple #[.agg #[.bool false, .slice none 0 0], .agg #[.bool false, .slice none 0 0], .bool false]) ∧ Below w.heap.size w w' := by
  obtain ⟨hn0, hn1⟩ := two_new w #[.bool false, .slice none 0 0] 50
  have hB0 := below2 w (.cells #[.bool false, .slice none 0 0] 50) (.cells #[.bool false, .slice none 0 0] 50)
  by_cases hva : validB a.data.toList = true
  · have hvb : validB b.data.toList = false := by rw [hva, Bool.true_and] at hv; exact hv
    go_enter Tryz.func38, Tryz.ntmps38
    go_wp2_with (first
      | (go_at_call_of 47 (Value.string a); generalize ((w.alloc (.cells #[.bool false, .slice none 0 0] 50)).alloc (.cells #[.bool false, .slice none 0 0] 50)) = W0 at *; refine (isValid_true a _ hsa hva).mono ?_; rintro e w1 ⟨rfl, hb1⟩)
      | (go_at_call_of 47 (Value.string b); refine (isValid_false b _ hsb hvb).mono ?_; rintro e w4 ⟨rfl, hb2⟩; have hb14 : Below W0.heap.size W0 w4 := hb1.trans (hb2.mono hb1.size); have hm0 := (hb14.block _ (Array.getElem?_eq_some_iff.1 hn0).1).trans hn0; have hm1 := (hb14.block _ (Array.getElem?_eq_some_iff.1 hn1).1).trans hn1; obtain ⟨c1, c2, c3, c4⟩ := two_facts hm0; obtain ⟨c5, c6, c7, c8⟩ := two_facts hm1))
    obtain ⟨f1, f2, f3, f4, hB6⟩ := both_zero (hB0.trans (hb14.mono hB0.size)) hm0 hm1 _ rfl
    refine bodyPost_ret (v := .tuple #[.agg #[.bool false, .slice none 0 0], .agg #[.bool false, .slice none 0 0], .bool false]) ?res rfl ?_
    case res => simp [results, Tryz.f38, go_sem, f1, f2, f3, f4]
    exact ⟨rfl, hB6⟩
  · have hva : validB a.data.toList = false := by simpa using hva
    go_enter Tryz.func38, Tryz.ntmps38
    go_wp2_with (first
      | (go_at_call_of 47 (Value.string a); generalize ((w.alloc (.cells #[.bool false, .slice none 0 0] 50)).alloc (.cells #[.bool false, .slice none 0 0] 50)) = W0 at *; refine (isValid_false a _ hsa hva).mono ?_; rintro e w4 ⟨rfl, hb14⟩; have hm0 := (hb14.block _ (Array.getElem?_eq_some_iff.1 hn0).1).trans hn0; have hm1 := (hb14.block _ (Array.getElem?_eq_some_iff.1 hn1).1).trans hn1; obtain ⟨c1, c2, c3, c4⟩ := two_facts hm0; obtain ⟨c5, c6, c7, c8⟩ := two_facts hm1))
    obtain ⟨f1, f2, f3, f4, hB6⟩ := both_zero (hB0.trans (hb14.mono hB0.size)) hm0 hm1 _ rfl
    refine bodyPost_ret (v := .tuple #[.agg #[.bool false, .slice none 0 0], .agg #[.bool false, .slice none 0 0], .bool false]) ?res rfl ?_
    case res => simp [results, Tryz.f38, go_sem, f1, f2, f3, f4]
    exact ⟨rfl, hB6⟩
end Go.Proofs.YtnfkibgoockmpaaGreatDoor
