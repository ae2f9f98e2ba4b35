/-
  Regions that draw their order and end in operations that each wait, if need be through others, for all ahead of them.
-/
import Derived.Test.YtngohpgkceedeaaGreatDoorWTail3
set_option linter.unusedSimpArgs false
set_option linter.unusedVariables false
namespace Go.Proofs.YtngohpgkceedeaaGreatDoor
open Go Go.RowKit Go.Lib Go.Shelf

def tailFitT (ops : Array Oper) (n : Nat) : Bool :=
  (List.range' n (ops.size - n)).all fun i => match ops[i]? with | some o => (List.range i).all fun j => waitsT ops 6 o j | none => false
theorem tailFitT_wait {ops : Array Oper} {n : Nat} (h : tailFitT ops n = true) {i : Nat} {o : Oper} (hi : n ≤ i) (ho : ops[i]? = some o) {j : Nat} (hj : j < i) : waitsT ops 6 o j = true := by
  unfold tailFitT at h
  rw [List.all_eq_true] at h
  have hlt := (Array.getElem?_eq_some_iff.1 ho).1
  have h1 := h i (by rw [List.mem_range'_1]; omega)
  rw [ho] at h1
  simp only [List.all_eq_true] at h1
  exact h1 j (List.mem_range.2 hj)
theorem wpAny_seqT {P : Program} {ops : Array Oper} {Q : Exit → Act → World → Prop} {n N : Nat} (hfit : quietFit ops N = true) (htail : tailFitT ops n = true) :
    ∀ (m k fuel : Nat) (listed : Array Bool) (a : Act) (W : World), n ≤ k → k + m = ops.size → listed.size = ops.size → Closed ops listed → (∀ i, i < k → listed.getD i false = true) → (∀ i, k ≤ i → listed.getD i false = false) → m ≤ fuel →
      wpOps P ops Q (List.range' k m) a W → wpAny P .any ops Q fuel listed a W
  | 0, k, fuel, listed, a, W, hn, hk, hs, hc, h1, h2, hf, h => by
    have hr : Region.ready .any ops listed = [] := by
      rw [List.eq_nil_iff_forall_not_mem]
      intro i hi
      have h3 := ready_listed hi hs
      obtain ⟨_, o, ho, _⟩ := mem_ready.1 hi
      have := h1 i (by have := (Array.getElem?_eq_some_iff.1 ho).1; omega)
      rw [h3] at this; cases this
    cases fuel with
    | zero => exact ⟨hr, h⟩
    | succ f => exact ⟨fun _ => h, fun i hi => (by rw [hr] at hi; cases hi)⟩
  | m + 1, k, fuel, listed, a, W, hn, hk, hs, hc, h1, h2, hf, h => by
    obtain ⟨f, rfl⟩ : ∃ f, fuel = f + 1 := ⟨fuel - 1, by omega⟩
    have ho : ops[k]? = some (ops[k]'(by omega)) := by simp [show k < ops.size by omega]
    have hm : k ∈ Region.ready .any ops listed := by
      refine mem_ready.2 ⟨?_, _, ho, fun e he hb => h1 _ (quietFit.edge hfit ho he hb)⟩
      have := h2 k (Nat.le_refl _)
      rw [Array.getD_eq_getD_getElem?] at this ⊢
      have hlt : k < listed.size := by omega
      rw [Array.getElem?_eq_getElem hlt] at this ⊢
      exact this
    refine ⟨fun hr => (by rw [hr] at hm; cases hm), fun i hi => ?_⟩
    obtain ⟨_, o, ho', hdep⟩ := mem_ready.1 hi
    have hik : i = k := by
      rcases Nat.lt_trichotomy i k with hlt | he | hgt
      · have := h1 i hlt; rw [ready_listed hi hs] at this; cases this
      · exact he
      · have := waitsT_listed hc 6 o k hdep (tailFitT_wait htail (by omega) ho' hgt)
        rw [h2 k (Nat.le_refl _)] at this; cases this
    subst hik
    rw [List.range'_succ, wpOps_cons] at h
    refine wpOp_mono (fun a' W' h' => wpAny_seqT hfit htail m (i + 1) f _ a' W' (by omega) (by omega) (by rw [Array.size_setIfInBounds]; exact hs) (closed_set hc ho' hdep) (fun j hj => ?_) (fun j hj => ?_) (by omega) h') h
    · by_cases hji : j = i
      · subst hji; exact listed_self (by omega)
      · exact listed_keep (h1 j (by omega))
    · have := h2 j (by omega)
      rw [Array.getD_eq_getD_getElem?] at this ⊢
      rw [Array.getElem?_setIfInBounds_ne (by omega)]; exact this
/-- **The first n operations are said of by items, and their new blocks lie apart; the others each wait, if need be through others, for all ahead of them.** -/
theorem wp_region_items3 {P : Program} {ops : Array Oper} {Q : Exit → Act → World → Prop} {id : Nat} {tmps : Array Value} {ds : List Deferred} {w : World} (n : Nat) (items : List QItem) (L : List Nat) (hm : P.follows .mixedOrders = true)
    (htail : (tailFitT ops n && quietFit ops tmps.size && decide (n ≤ ops.size) && decide ((ops.toList.take n).length = items.length)) = true) (hL : newDsts (ops.toList.take n) = L) (hmono : itemsMono items) (hall : allItems P ops (ops.toList.take n) items tmps w (ops.toList.take n) items)
    (hdone : ∀ W, Below w.heap.size w W → setItems W (fun T => Apart L T → wpList P ops Q (ops.toList.drop n) ⟨T, ds⟩ W) (ops.toList.take n) items tmps) : (Code.region id ops true).wp P Q ⟨tmps, ds⟩ w := by
  simp only [Bool.and_eq_true, decide_eq_true_eq] at htail
  obtain ⟨⟨⟨h1, hfit⟩, hn⟩, hlen⟩ := htail
  have e : ∀ a W, wpOps P ops Q (List.range' n (ops.size - n)) a W = wpList P ops Q (ops.toList.drop n) a W := fun a W => by
    have h := wpOps_eq_wpList (P := P) (ops := ops) (Q := Q) (ops.toList.drop n) n (fun j => by rw [List.getElem?_drop]; simp)
    rw [List.length_drop, Array.length_toList] at h
    rw [h]
  have hallq : allQuiet P ops (ops.toList.take n) (itemSp items) tmps w 0 (ops.toList.take n) := allItems.quiet _ _ 0 hall (fun i => by simp)
  have hin : ∀ (listed : Array Bool), (∀ j, n ≤ j → listed.getD j false = false) → ∀ j (p : Oper), ops[j]? = some p → listed.getD j false = true → p ∈ ops.toList.take n := by
    intro listed h2 j p hp hl
    have hjn : j < n := by
      rcases Nat.lt_or_ge j n with h | h
      · exact h
      · rw [h2 j h] at hl; cases hl
    refine List.mem_of_getElem? (i := j) ?_
    rw [List.getElem?_take, if_pos hjn]; simpa using hp
  refine wp_region_any hm (wpAny_inv2 (J := fun listed a W => QuietAt ops (itemSp items) tmps ds w listed a W ∧ ApartAt ops listed a W ∧ Closed ops listed) (C := []) hn (fun i o hi ho j hj _ => tailFitT_wait h1 hi ho hj) (fun listed a W h => h.1.lsize) (fun listed a W h => h.2.2) ?_ ?_ hfit ops.size _ _ _ ⟨⟨Below.drew (Below.refl _ _), rfl, rfl, by simp, ?_, fun _ _ => rfl⟩, ⟨?_, ?_⟩, ?_⟩ (fun i _ => ?_) ?_)
  · intro listed a W i o hJ h2 hi ho hni hdep
    refine wpOp_mono (fun a' W' h => ⟨h.1, h.2, closed_set hJ.2.2 ho hdep⟩) (quietAt_step2 hmono.get hfit ?_ (hin listed h2) ho hJ.1 hJ.2.1 hni hdep)
    have := allQuiet.get (ops.toList.take n) 0 hallq i o (by rw [List.getElem?_take, if_pos hi]; simpa using ho)
    rwa [Nat.zero_add] at this
  · intro fuel listed a W hJ h2 h3 hc
    have h3' : ∀ j, j < n → listed.getD j false = true := fun j hj => h3 j hj (by simp)
    refine wpAny_seqT hfit h1 (ops.size - n) n fuel listed a W (Nat.le_refl _) (by omega) hJ.1.lsize hJ.2.2 h3' h2 ?_ ?_
    · refine Nat.le_trans ?_ hc
      have e2 : listed.toList = listed.toList.take n ++ List.replicate (ops.size - n) false := by
        apply List.ext_getElem?
        intro i
        have hsz := hJ.1.lsize
        rcases Nat.lt_or_ge i n with hi | hi
        · rw [List.getElem?_append_left (by simp; omega), List.getElem?_take, if_pos hi]
        · rw [List.getElem?_append_right (by simp; omega)]
          have hl : (listed.toList.take n).length = n := by simp; omega
          rw [hl, List.getElem?_replicate]
          have := h2 i hi
          rw [Array.getD_eq_getD_getElem?] at this
          split
          · rename_i hlt
            have hlt' : i < listed.size := by omega
            rw [Array.getElem?_eq_getElem hlt'] at this
            simp at this
            simp [hlt', this]
          · rename_i hge
            simp; omega
      rw [e2, List.count_append, List.count_replicate]
      simp
    · rw [e]
      have hq := setItems_done (items := items) (K := fun T W => Apart L T → wpList P ops Q (ops.toList.drop n) ⟨T, ds⟩ W) (ops.toList.take n) items 0 tmps hlen (fun i => by simp) (hdone W hJ.1.below)
      have h4 := quietDone_use a.tmps (ops.toList.take n) 0 tmps hq hJ.1.size.symm (fun i o t ho ht => by
        rw [Nat.zero_add]
        rw [List.getElem?_take] at ho
        split at ho
        · rename_i hi
          exact hJ.1.done i o t (by simpa using ho) ht (h3' i hi)
        · cases ho) (fun t ht => hJ.1.same t (fun j p hp hl => foreign_mem ht (hin listed h2 j p hp hl)))
      have : a = ⟨a.tmps, ds⟩ := by rw [← hJ.1.defers]
      rw [this]
      refine h4 ?_
      rw [← hL]
      refine apart_of fun i j o p t s ho hp hno hnp ht hs hne => ?_
      rw [List.getElem?_take] at ho hp
      split at ho
      · rename_i hi
        split at hp
        · rename_i hj
          exact hJ.2.1.apart i j o p t s (by simpa using ho) (by simpa using hp) hno hnp ht hs hne (h3' i hi) (h3' j hj)
        · cases hp
      · cases ho
  · intro i o t _ _ h
    rw [Array.getD_eq_getD_getElem?] at h
    by_cases hi : i < ops.size <;> simp [hi] at h
  · intro i o t _ _ _ h
    rw [Array.getD_eq_getD_getElem?] at h
    by_cases hi : i < ops.size <;> simp [hi] at h
  · intro i j o p t s _ _ _ _ _ _ _ h
    rw [Array.getD_eq_getD_getElem?] at h
    by_cases hi : i < ops.size <;> simp [hi] at h
  · intro i o _ h
    rw [Array.getD_eq_getD_getElem?] at h
    by_cases hi : i < ops.size <;> simp [hi] at h
  · rw [Array.getD_eq_getD_getElem?]
    by_cases hi : i < ops.size <;> simp [hi]
  · simp
end Go.Proofs.YtngohpgkceedeaaGreatDoor
