/-
  drift.Known at valid histories, and what Search finds there.
-/
import Derived.Deep.DeepCutAuto
import Derived.Deep.RegionHeld3
import Derived.Test.YtngohpgkceedeaaGreatDoorWDInsert
import Derived.Test.YtngohpgkceedeaaGreatDoorWRound
set_option linter.unusedSimpArgs false
set_option linter.unusedVariables false
namespace Go.Proofs.YtngohpgkceedeaaGreatDoor
open Go Go.RowKit Go.Lib Go.Shelf

theorem upTo_find {l : List Pt} {T : Int} {k : Nat} (hk : k ≤ l.length) (h1 : ∀ t, t < k → decide (T < ((ptD l t).t : Int)) = false) (h2 : ∀ t, k ≤ t → t < l.length → decide (T < ((ptD l t).t : Int)) = true) : k = upTo l T := by
  have e : upTo l T = upTo (l.take k) T + upTo (l.drop k) T := by
    unfold upTo
    rw [← List.countP_append, List.take_append_drop]
  have a1 : upTo (l.take k) T = k := by
    have : (l.take k).length = k := by rw [List.length_take]; omega
    unfold upTo
    rw [show List.countP _ (l.take k) = (l.take k).length from List.countP_eq_length.2 (fun q hq => by
      obtain ⟨i, hi, e⟩ := List.getElem_of_mem hq
      have hik : i < k := by omega
      have := h1 i hik
      rw [List.getElem_take] at e
      have e2 : ptD l i = q := by unfold ptD; rw [List.getD_eq_getElem?_getD, List.getElem?_eq_getElem (by omega)]; exact e
      rw [e2] at this
      simp at this ⊢; omega), this]
  have a2 : upTo (l.drop k) T = 0 := by
    unfold upTo
    rw [List.countP_eq_zero]
    intro q hq
    obtain ⟨i, hi, e⟩ := List.getElem_of_mem hq
    rw [List.length_drop] at hi
    have := h2 (k + i) (by omega) (by omega)
    rw [List.getElem_drop] at e
    have e2 : ptD l (k + i) = q := by unfold ptD; rw [List.getD_eq_getElem?_getD, List.getElem?_eq_getElem (by omega)]; exact e
    rw [e2] at this
    simp at this ⊢; omega
  rw [e, a1, a2]; rfl
theorem sorted_mono {l : List Pt} (hs : l.Pairwise fun a b => a.t ≤ b.t) {a b : Nat} (hab : a ≤ b) (hb : b < l.length) : (ptD l a).t ≤ (ptD l b).t := by
  rcases Nat.eq_or_lt_of_le hab with rfl | h
  · exact Nat.le_refl _
  · have := List.pairwise_iff_getElem.1 hs a b (by omega) hb h
    have e1 : ptD l a = l[a] := by unfold ptD; rw [List.getD_eq_getElem?_getD, List.getElem?_eq_getElem (by omega)]; rfl
    have e2 : ptD l b = l[b] := by unfold ptD; rw [List.getD_eq_getElem?_getD, List.getElem?_eq_getElem hb]; rfl
    rw [e1, e2]; exact this
set_option maxRecDepth 100000 in
set_option maxHeartbeats 16000000 in
theorem dknown1 {r : Rat} {l : List Pt} {p : Option Addr} {n c i : Nat} {T : Int} (hn : l.length = n) (hlt : i < l.length) (bh bt : Nat) (w : World) (rh : Row w bh (.cells #[.string (S r.num), .string (S (r.den : Int)), .slice p n c] 49)) (rt : Row w bt (.cells #[.int .i64 T] 3)) (hp : PAt w p l) : Calls Tryz.prog 91 #[.int .i64 (i : Int), .pointer (some ⟨bh, 0, none⟩), .pointer (some ⟨bt, 0, none⟩)] w (BoolOk (decide (T < ((ptD l i).t : Int))) w) := by
  have hB : Below w.heap.size w w := Below.refl _ _
  obtain ⟨g, cur, rfl, rg, g0, g1, g2, g3, g4⟩ := PAt.at hp hlt
  clear g1 g2 g3 g4 hp
  generalize (ptD l i).t = q at *
  have hi : (i : Int) < (n : Int) := by omega
  clear hlt hn
  have Fh : ∀ X, Row X bh (.cells #[.string (S r.num), .string (S (r.den : Int)), .slice (some ⟨g, 0, none⟩) n c] 49) → (bh < X.heap.size ∧ X.cell? ⟨bh, 0, none⟩ = some (.string (S r.num)) ∧ X.cell? ⟨bh, 1, none⟩ = some (.string (S (r.den : Int))) ∧ X.cell? ⟨bh, 2, none⟩ = some (.slice (some ⟨g, 0, none⟩) n c)) := fun X h => ⟨h.1, Row.cell_at h 0 rfl, Row.cell_at h 1 rfl, Row.cell_at h 2 rfl⟩
  obtain ⟨sh, ch0, ch1, ch2⟩ := Fh _ rh
  have Ft : ∀ X, Row X bt (.cells #[.int .i64 T] 3) → (bt < X.heap.size ∧ X.cell? ⟨bt, 0, none⟩ = some (.int .i64 T)) := fun X h => ⟨h.1, Row.cell_at h 0 rfl⟩
  obtain ⟨st, ct0⟩ := Ft _ rt
  have Fg : ∀ X, Row X g (.cells cur 53) → (g < X.heap.size ∧ X.cell? ⟨g, i * 5, none⟩ = some (.int .i64 (q : Int))) := fun X h => ⟨h.1, Row.cell_at h _ g0⟩
  obtain ⟨sg, cg0⟩ := Fg _ rg
  go_enter Tryz.func91, Tryz.ntmps91
  go_wp2_with fail
  refine wp_region_items 8 [.val (.pointer (some ⟨bh, 2, none⟩)), .val (.slice (some ⟨g, 0, none⟩) n c), .val (.int .i64 (i : Int)), .val (.pointer (some ⟨g, i * 5, none⟩)), .val (.pointer (some ⟨g, i * 5, none⟩)), .val (.int .i64 (q : Int)), .val (.int .i64 T), .val (.bool (decide (T < (q : Int))))] (by kernel_rfl) (by kernel_rfl) trivial (allItems.cons qi0 (allItems.cons (qi1 fun X h => Fh X (Row.below rh h)) (allItems.cons qi0 (allItems.cons (qif hi) (allItems.cons qi0 (allItems.cons (qi1 fun X h => Fg X (Row.below rg h)) (allItems.cons (qi1 fun X h => Ft X (Row.below rt h)) (allItems.cons (qif hi) trivial)))))))) ?_
  rintro W h1
  clear sh ch0 ch1 ch2
  clear st ct0
  clear sg cg0
  replace hB := hB.trans (h1.mono hB.size)
  replace rh := Row.below rh h1
  replace rt := Row.below rt h1
  replace rg := Row.below rg h1
  clear h1
  obtain ⟨sh, ch0, ch1, ch2⟩ := Fh _ rh
  obtain ⟨st, ct0⟩ := Ft _ rt
  obtain ⟨sg, cg0⟩ := Fg _ rg
  simp only [setItems, List.setIfInBounds_toArray, List.set_cons_succ, List.set_cons_zero, List.take_succ_cons, List.take_zero, List.drop_succ_cons, List.drop_zero]
  go_wp2
  go_ret
  exact ⟨rfl, hB⟩
theorem dknown1_find {r : Rat} {l : List Pt} {p : Option Addr} {n c : Nat} {T : Int} (hn : l.length = n) (hn1 : n ≤ 1000) (hs : l.Pairwise fun a b => a.t ≤ b.t) (bh bt : Nat) (w : World) (rh : Row w bh (.cells #[.string (S r.num), .string (S (r.den : Int)), .slice p n c] 49)) (rt : Row w bt (.cells #[.int .i64 T] 3)) (hp : PAt w p l) :
    Calls Tryz.prog 87 #[.int .i64 (n : Int), .func (.func 91) #[] #[.pointer (some ⟨bh, 0, none⟩), .pointer (some ⟨bt, 0, none⟩)]] w fun e w' => e = .returned (.int .i64 (upTo l T : Int)) ∧ Below w.heap.size w w' := by
  have eg : ∀ args w, (callFunc 91 args).run Tryz.prog w = .ok (.enter 91 args) w := enters_of Tryz.func91 (by kernel_rfl) rfl
  have h := search_any n 91 #[.pointer (some ⟨bh, 0, none⟩), .pointer (some ⟨bt, 0, none⟩)] (fun i => decide (T < ((ptD l i).t : Int))) w eg (by omega)
    (fun W i hi hB => dknown1 hn (by omega) bh bt W (Row.below rh hB) (Row.below rt hB) (hp.below hB))
    (fun a b hab hb h => by have := sorted_mono hs hab (by omega); simp at h ⊢; omega)
  refine h.mono ?_
  rintro e w' ⟨⟨k, rfl, hk, h1, h2⟩, hB⟩
  refine ⟨?_, hB⟩
  rw [upTo_find (by omega) h1 (fun t a b => h2 t a (by omega))]
set_option maxRecDepth 100000 in
set_option maxHeartbeats 16000000 in
theorem dadd1 {r : Rat} {l : List Pt} {p : Option Addr} {n c i : Nat} {a : Pt} (hn : l.length = n) (hlt : i < l.length) (bh bt : Nat) (w : World) (rh : Row w bh (.cells #[.string (S r.num), .string (S (r.den : Int)), .slice p n c] 49)) (rt : Row w bt (.cells #[.int .i64 (a.t : Int), .string (S a.iv.lo.num), .string (S (a.iv.lo.den : Int)), .string (S a.iv.hi.num), .string (S (a.iv.hi.den : Int))] 53)) (hp : PAt w p l) : Calls Tryz.prog 93 #[.int .i64 (i : Int), .pointer (some ⟨bh, 0, none⟩), .pointer (some ⟨bt, 0, none⟩)] w (BoolOk (decide ((a.t : Int) < ((ptD l i).t : Int))) w) := by
  have hB : Below w.heap.size w w := Below.refl _ _
  obtain ⟨g, cur, rfl, rg, g0, g1, g2, g3, g4⟩ := PAt.at hp hlt
  clear g1 g2 g3 g4 hp
  generalize (ptD l i).t = q at *
  have hi : (i : Int) < (n : Int) := by omega
  clear hlt hn
  have Fh : ∀ X, Row X bh (.cells #[.string (S r.num), .string (S (r.den : Int)), .slice (some ⟨g, 0, none⟩) n c] 49) → (bh < X.heap.size ∧ X.cell? ⟨bh, 0, none⟩ = some (.string (S r.num)) ∧ X.cell? ⟨bh, 1, none⟩ = some (.string (S (r.den : Int))) ∧ X.cell? ⟨bh, 2, none⟩ = some (.slice (some ⟨g, 0, none⟩) n c)) := fun X h => ⟨h.1, Row.cell_at h 0 rfl, Row.cell_at h 1 rfl, Row.cell_at h 2 rfl⟩
  obtain ⟨sh, ch0, ch1, ch2⟩ := Fh _ rh
  have Ft : ∀ X, Row X bt (.cells #[.int .i64 (a.t : Int), .string (S a.iv.lo.num), .string (S (a.iv.lo.den : Int)), .string (S a.iv.hi.num), .string (S (a.iv.hi.den : Int))] 53) → (bt < X.heap.size ∧ X.cell? ⟨bt, 0, none⟩ = some (.int .i64 (a.t : Int)) ∧ X.cell? ⟨bt, 1, none⟩ = some (.string (S a.iv.lo.num)) ∧ X.cell? ⟨bt, 2, none⟩ = some (.string (S (a.iv.lo.den : Int))) ∧ X.cell? ⟨bt, 3, none⟩ = some (.string (S a.iv.hi.num)) ∧ X.cell? ⟨bt, 4, none⟩ = some (.string (S (a.iv.hi.den : Int)))) := fun X h => ⟨h.1, Row.cell_at h 0 rfl, Row.cell_at h 1 rfl, Row.cell_at h 2 rfl, Row.cell_at h 3 rfl, Row.cell_at h 4 rfl⟩
  obtain ⟨st, ct0, ct1, ct2, ct3, ct4⟩ := Ft _ rt
  have Fg : ∀ X, Row X g (.cells cur 53) → (g < X.heap.size ∧ X.cell? ⟨g, i * 5, none⟩ = some (.int .i64 (q : Int))) := fun X h => ⟨h.1, Row.cell_at h _ g0⟩
  obtain ⟨sg, cg0⟩ := Fg _ rg
  go_enter Tryz.func93, Tryz.ntmps93
  go_wp2_with fail
  refine wp_region_items 9 [.val (.pointer (some ⟨bh, 2, none⟩)), .val (.slice (some ⟨g, 0, none⟩) n c), .val (.int .i64 (i : Int)), .val (.pointer (some ⟨g, i * 5, none⟩)), .val (.pointer (some ⟨g, i * 5, none⟩)), .val (.int .i64 (q : Int)), .val (.pointer (some ⟨bt, 0, none⟩)), .val (.int .i64 (a.t : Int)), .val (.bool (decide ((a.t : Int) < (q : Int))))] (by kernel_rfl) (by kernel_rfl) trivial (allItems.cons qi0 (allItems.cons (qi1 fun X h => Fh X (Row.below rh h)) (allItems.cons qi0 (allItems.cons (qif hi) (allItems.cons qi0 (allItems.cons (qi1 fun X h => Fg X (Row.below rg h)) (allItems.cons qi0 (allItems.cons (qi1 fun X h => Ft X (Row.below rt h)) (allItems.cons (qif hi) trivial))))))))) ?_
  rintro W h1
  clear sh ch0 ch1 ch2
  clear st ct0 ct1 ct2 ct3 ct4
  clear sg cg0
  replace hB := hB.trans (h1.mono hB.size)
  replace rh := Row.below rh h1
  replace rt := Row.below rt h1
  replace rg := Row.below rg h1
  clear h1
  obtain ⟨sh, ch0, ch1, ch2⟩ := Fh _ rh
  obtain ⟨st, ct0, ct1, ct2, ct3, ct4⟩ := Ft _ rt
  obtain ⟨sg, cg0⟩ := Fg _ rg
  simp only [setItems, List.setIfInBounds_toArray, List.set_cons_succ, List.set_cons_zero, List.take_succ_cons, List.take_zero, List.drop_succ_cons, List.drop_zero]
  go_wp2
  go_ret
  exact ⟨rfl, hB⟩
theorem dadd1_find {r : Rat} {l : List Pt} {p : Option Addr} {n c : Nat} {a : Pt} (hn : l.length = n) (hn1 : n ≤ 1000) (hs : l.Pairwise fun a b => a.t ≤ b.t) (bh bt : Nat) (w : World) (rh : Row w bh (.cells #[.string (S r.num), .string (S (r.den : Int)), .slice p n c] 49)) (rt : Row w bt (.cells #[.int .i64 (a.t : Int), .string (S a.iv.lo.num), .string (S (a.iv.lo.den : Int)), .string (S a.iv.hi.num), .string (S (a.iv.hi.den : Int))] 53)) (hp : PAt w p l) :
    Calls Tryz.prog 87 #[.int .i64 (n : Int), .func (.func 93) #[] #[.pointer (some ⟨bh, 0, none⟩), .pointer (some ⟨bt, 0, none⟩)]] w fun e w' => e = .returned (.int .i64 (upTo l (a.t : Int) : Int)) ∧ Below w.heap.size w w' := by
  have eg : ∀ args w, (callFunc 93 args).run Tryz.prog w = .ok (.enter 93 args) w := enters_of Tryz.func93 (by kernel_rfl) rfl
  have h := search_any n 93 #[.pointer (some ⟨bh, 0, none⟩), .pointer (some ⟨bt, 0, none⟩)] (fun i => decide ((a.t : Int) < ((ptD l i).t : Int))) w eg (by omega)
    (fun W i hi hB => dadd1 hn (by omega) bh bt W (Row.below rh hB) (Row.below rt hB) (hp.below hB))
    (fun a b hab hb h => by have := sorted_mono hs hab (by omega); simp at h ⊢; omega)
  refine h.mono ?_
  rintro e w' ⟨⟨k, rfl, hk, h1, h2⟩, hB⟩
  refine ⟨?_, hB⟩
  rw [upTo_find (by omega) h1 (fun t a b => h2 t a (by omega))]
theorem dclone2 {l : List Pt} (p : Option Addr) (n c : Nat) (hn : l.length = n) (hn1 : n ≤ 1000) (w : World) (hp : PAt w p l) :
    Calls Tryz.prog 92 #[.slice p n c] w fun e w' => ∃ p' c', (w'.ownsRow w.heap.size 53 5 (.slice p' n c') n (pCells l)) ∧ e = .returned (.slice p' n c') ∧ Below w.heap.size w w' :=
  (dclone p n c hn hn1 w hp).mono fun e w' ⟨v, h1, h2, h3⟩ => by
    obtain ⟨p', c', rfl⟩ : ∃ p' c', v = .slice p' n c' := by
      rcases h2.2 with ⟨rfl, rfl⟩ | ⟨g, cap, cur, rfl, _⟩
      · exact ⟨_, _, rfl⟩
      · exact ⟨_, _, rfl⟩
    exact ⟨p', c', h2, h1, h3⟩
def KnownOk (r : Rat) (l : List Pt) (k : Nat) (w : World) (e : Ending) (w' : World) : Prop := ∃ p c, (w'.ownsRow w.heap.size 53 5 (.slice p k c) k (pCells l)) ∧ e = .returned (.agg #[.string (S r.num), .string (S (r.den : Int)), .slice p k c]) ∧ Below w.heap.size w w'
set_option maxRecDepth 100000 in
set_option maxHeartbeats 16000000 in
theorem dknown {r : Rat} {l : List Pt} (T : Int) (ho : Hist.Ok ⟨r, l⟩) (p : Option Addr) (n c : Nat) (hn : l.length = n) (hnc : n ≤ c) (w : World) (hp : PAt w p l) (he : Env w) : Calls Tryz.prog 36 #[HV ⟨r, l⟩ (.slice p n c), .int .i64 T] w (KnownOk r (l.take (upTo l T)) (upTo l T) w) := by
  have hB : Below w.heap.size w w := Below.refl _ _
  have MV := fun W (hp : PAt W p l) (H : Env W) => dvalid ho p n c hn W hp H
  have hfew := ho.few
  have hs := ho.sorted
  have HP := Lib.hid hp
  have hk := upTo_le l T
  rw [hn] at hk hfew
  have MK := fun W bh bt rh rt (hp : PAt W p l) => dknown1_find (r := r) (c := c) (T := T) hn (by omega) hs bh bt W rh rt hp
  have MC := fun W (hp : PAt W p l) => dclone2 p (upTo l T) c (l := l.take (upTo l T)) (by rw [List.length_take, hn]; omega) (by omega) W (hp.take _)
  unfold BoolOk HV at *
  unfold KnownOk
  simp only at MV ⊢
  generalize upTo l T = k at *
  have hki : (k : Int) ≤ (n : Int) := by omega
  have hk0 : (0 : Int) ≤ (k : Int) := by omega
  have hkn : k ≤ n := hk
  have hkc : (k : Int) ≤ (c : Int) := by omega
  have hkc2 : k ≤ c := by omega
  clear ho hp hs hn hfew
  go_enter Tryz.func36, Tryz.ntmps36
  go_wp2_with fail
  have d0_o : w.heap.size ≤ w.heap.size + 1 + 1 := by have := hB.size; omega
  have sB := hB.size
  refine world_cut (fun X => Below w.heap.size w X ∧ Row X w.heap.size (.cells #[.string (S r.num), .string (S (r.den : Int)), .slice p n c] 49) ∧ Row X (w.heap.size + 1) (.cells #[.int .i64 T] 3) ∧ Row X (w.heap.size + 1 + 1) (.cells #[.string ⟨#[]⟩, .string ⟨#[]⟩, .slice none 0 0] 49)) ⟨BW, RWh, RWh, RWh⟩ ?_
  clear hB sB
  rintro V1 ⟨hB, rh, rt, ro⟩
  have Fh : ∀ X, Row X w.heap.size (.cells #[.string (S r.num), .string (S (r.den : Int)), .slice p n c] 49) → (w.heap.size < X.heap.size ∧ X.cell? ⟨w.heap.size, 0, none⟩ = some (.string (S r.num)) ∧ X.cell? ⟨w.heap.size, 1, none⟩ = some (.string (S (r.den : Int))) ∧ X.cell? ⟨w.heap.size, 2, none⟩ = some (.slice p n c)) := fun X h => ⟨h.1, Row.cell_at h 0 rfl, Row.cell_at h 1 rfl, Row.cell_at h 2 rfl⟩
  obtain ⟨sh, ch0, ch1, ch2⟩ := Fh _ rh
  have Ft : ∀ X, Row X (w.heap.size + 1) (.cells #[.int .i64 T] 3) → (w.heap.size + 1 < X.heap.size ∧ X.cell? ⟨w.heap.size + 1, 0, none⟩ = some (.int .i64 T)) := fun X h => ⟨h.1, Row.cell_at h 0 rfl⟩
  obtain ⟨st, ct0⟩ := Ft _ rt
  have Fo : ∀ X, Row X (w.heap.size + 1 + 1) (.cells #[.string ⟨#[]⟩, .string ⟨#[]⟩, .slice none 0 0] 49) → (w.heap.size + 1 + 1 < X.heap.size ∧ X.cell? ⟨w.heap.size + 1 + 1, 0, none⟩ = some (.string ⟨#[]⟩) ∧ X.cell? ⟨w.heap.size + 1 + 1, 1, none⟩ = some (.string ⟨#[]⟩) ∧ X.cell? ⟨w.heap.size + 1 + 1, 2, none⟩ = some (.slice none 0 0) ∧ X.frozen? ⟨w.heap.size + 1 + 1, 0, none⟩ = false ∧ X.frozen? ⟨w.heap.size + 1 + 1, 1, none⟩ = false ∧ X.frozen? ⟨w.heap.size + 1 + 1, 2, none⟩ = false) := fun X h => ⟨h.1, Row.cell_at h 0 rfl, Row.cell_at h 1 rfl, Row.cell_at h 2 rfl, frozen_of_row _ _ 0 _ _ h.2, frozen_of_row _ _ 1 _ _ h.2, frozen_of_row _ _ 2 _ _ h.2⟩
  obtain ⟨so, co0, co1, co2, fo0, fo1, fo2⟩ := Fo _ ro
  refine (MV _ (PAt.below HP.out hB) (he.below hB)).mono ?_
  rintro e W2 ⟨rfl, h1⟩
  clear sh ch0 ch1 ch2
  clear st ct0
  clear so co0 co1 co2 fo0 fo1 fo2
  replace hB := hB.trans (h1.mono hB.size)
  replace rh := Row.below rh h1
  replace rt := Row.below rt h1
  replace ro := Row.below ro h1
  clear h1
  obtain ⟨sh, ch0, ch1, ch2⟩ := Fh _ rh
  obtain ⟨st, ct0⟩ := Ft _ rt
  obtain ⟨so, co0, co1, co2, fo0, fo1, fo2⟩ := Fo _ ro
  go_wp2_with fail
  refine (MK _ _ _ rh rt (PAt.below HP.out hB)).mono ?_
  rintro e W3 ⟨rfl, h1⟩
  clear sh ch0 ch1 ch2
  clear st ct0
  clear so co0 co1 co2 fo0 fo1 fo2
  replace hB := hB.trans (h1.mono hB.size)
  replace rh := Row.below rh h1
  replace rt := Row.below rt h1
  replace ro := Row.below ro h1
  clear h1
  obtain ⟨sh, ch0, ch1, ch2⟩ := Fh _ rh
  obtain ⟨st, ct0⟩ := Ft _ rt
  obtain ⟨so, co0, co1, co2, fo0, fo1, fo2⟩ := Fo _ ro
  have LTo := ro.1
  have LB := hB.size
  go_wp2_with fail
  clear rt
  clear st ct0
  clear Ft
  clear sh ch0 ch1 ch2
  clear so co0 co1 co2 fo0 fo1 fo2
  have KK4 : ∀ X, Row X (w.heap.size) (.cells #[.string (S r.num), .string (S (r.den : Int)), .slice p n c] 49) → (X.cell? ⟨w.heap.size, 0, none⟩ = some (.string (S r.num)) ∧ X.cell? ⟨w.heap.size, 1, none⟩ = some (.string (S (r.den : Int))) ∧ X.cell? ⟨w.heap.size, 2, none⟩ = some (.slice p n c)) := fun X hh => ⟨Row.cell_at hh 0 rfl, Row.cell_at hh 1 rfl, Row.cell_at hh 2 rfl⟩
  go_region_held3 (fun X => X.cell? ⟨w.heap.size, 0, none⟩ = some (.string (S r.num)) ∧ X.cell? ⟨w.heap.size, 1, none⟩ = some (.string (S (r.den : Int))) ∧ X.cell? ⟨w.heap.size, 2, none⟩ = some (.slice p n c)) (first | exact KK4 _ RWh) (first
      | (go_at_call 92; with_reducible refine (MC _ (by first | exact PAt.below HP.out hB | exact PAt.below HP.out hB.drew | exact PAt.below HP.out (below_drewN hB _))).mono ?_; rintro e W ⟨p', c', hown, rfl, h1⟩; (try replace h1 := below_of_drew h1); replace hB := hB.trans (h1.mono hB.size); replace rh := Row.below rh h1; replace ro := Row.below ro h1; obtain ⟨so, co0, co1, co2, fo0, fo1, fo2⟩ := Fo _ ro))
  clear KK4
  clear so co0 co1 co2 fo0 fo1 fo2
  obtain ⟨sh, ch0, ch1, ch2⟩ := Fh _ rh
  obtain ⟨so, co0, co1, co2, fo0, fo1, fo2⟩ := Fo _ ro
  go_wp2_with fail
  have sB := hB.size
  have LTo2 : w.heap.size + 1 + 1 < W3.drew.heap.size := LTo
  refine post_cut (fun X => Below w.heap.size w X ∧ Row X (w.heap.size + 1 + 1) (.cells #[.string (S r.num), .string (S (r.den : Int)), .slice p' k c'] 49) ∧ X.ownsRow W3.drew.heap.size 53 5 (.slice p' k c') k (pCells (l.take k))) ⟨BW, RWh, OW⟩ ?_
  clear hB ro hown
  rintro V ⟨hB, ro, hown⟩
  have e0 := Row.cell_at ro 0 rfl
  have e1 := Row.cell_at ro 1 rfl
  have e2 := Row.cell_at ro 2 rfl
  refine bodyPost_ret (v := .agg #[.string (S r.num), .string (S (r.den : Int)), .slice p' k c']) ?res rfl ⟨p', c', own_at hown LB, rfl, hB⟩
  case res => simp [results, Tryz.results36, go_sem, e0, e1, e2]
end Go.Proofs.YtngohpgkceedeaaGreatDoor
