/-
  compare: absolute values are compared as their numbers are.
-/
import Derived.Test.YtnfkibgoockmpaaGreatDoorBack
namespace Go.Proofs.YtnfkibgoockmpaaGreatDoor
open Go Go.RowKit Go.Lib Go.Shelf
attribute [local go_sem] Oper.semAt_some

/-- The order of two numbers. -/
def cmpZ (a b : Int) : Int := if a < b then -1 else if b < a then 1 else 0
set_option maxHeartbeats 400000 in
theorem isNaN_any (a : Int) (w : World) : Calls Tryz.prog 85 #[.int .i64 a] w fun e w' => e = .returned (.bool false) ∧ w = w' := by
  have h : (a != a) = false := by simp
  go_enter Tryz.func85, Tryz.ntmps85
  go_wp2
  go_ret
  exact ⟨rfl, rfl⟩
set_option maxHeartbeats 400000 in
theorem cmp_any (a b : Int) (w : World) : Calls Tryz.prog 72 #[.int .i64 a, .int .i64 b] w fun e w' => e = .returned (.int .i64 (cmpZ a b)) ∧ w' = w := by
  rcases Int.lt_trichotomy a b with h | h | h
  · have e : cmpZ a b = -1 := by unfold cmpZ; rw [if_pos h]
    rw [e]
    go_enter Tryz.func72, Tryz.ntmps72
    go_wp2_with (go_at_call 85; refine (isNaN_any _ _).mono ?_; rintro e w' ⟨rfl, rfl⟩)
    go_ret
    exact ⟨rfl, rfl⟩
  · subst h
    have e : cmpZ a a = 0 := by unfold cmpZ; simp
    have h : ¬ a < a := by omega
    rw [e]
    go_enter Tryz.func72, Tryz.ntmps72
    go_wp2_with (go_at_call 85; refine (isNaN_any _ _).mono ?_; rintro e w' ⟨rfl, rfl⟩)
    go_ret
    exact ⟨rfl, rfl⟩
  · have e : cmpZ a b = 1 := by unfold cmpZ; rw [if_neg (by omega), if_pos h]
    have h2 : ¬ a < b := by omega
    rw [e]
    go_enter Tryz.func72, Tryz.ntmps72
    go_wp2_with (go_at_call 85; refine (isNaN_any _ _).mono ?_; rintro e w' ⟨rfl, rfl⟩)
    go_ret
    exact ⟨rfl, rfl⟩

theorem cmp_of_length {l k : List Nat} (nl : Norm l) (nk : Norm k) (h : l.length ≠ k.length) : cmpZ l.length k.length = cmpZ (val l) (val k) := by
  unfold cmpZ
  rcases Nat.lt_or_ge l.length k.length with h1 | h1
  · have := nl.lt_of_length nk h1
    rw [if_pos (by omega), if_pos (by omega)]
  · have := nk.lt_of_length nl (by omega)
    rw [if_neg (by omega), if_pos (by omega), if_neg (by omega), if_pos (by omega)]
theorem cmp_of_get {l k : List Nat} (sl : Small l) (sk : Small k) (h : l.length = k.length) (i : Nat) (hi : i < l.length) (hne : l.getD i 0 ≠ k.getD i 0)
    (heq : ∀ j, i < j → j < l.length → l.getD j 0 = k.getD j 0) : cmpZ (l.getD i 0 : Nat) (k.getD i 0 : Nat) = cmpZ (val l) (val k) := by
  unfold cmpZ
  rcases Nat.lt_or_ge (l.getD i 0) (k.getD i 0) with h1 | h1
  · have := val_lt_of_get sl h i hi h1 heq
    rw [if_pos (by omega), if_pos (by omega)]
  · have := val_lt_of_get sk h.symm i (by omega) (by omega) (fun j a b => (heq j a (by omega)).symm)
    rw [if_neg (by omega), if_pos (by omega), if_neg (by omega), if_pos (by omega)]

theorem cmp_of_gd {l k : List Nat} (sl : Small l) (sk : Small k) (h : l.length = k.length) (i : Nat) (hi : i < l.length) (hne : gd l i ≠ gd k i)
    (heq : ∀ j, i < j → j < l.length → gd l j = gd k j) : cmpZ (gd l i : Nat) (gd k i : Nat) = cmpZ (val l) (val k) := cmp_of_get sl sk h i hi hne heq

set_option maxRecDepth 100000 in
set_option maxHeartbeats 2000000 in
theorem compare_same (A B : Option Addr) (n c d : Nat) (l k : List Nat) (w : World) (hl : NumV w A n l) (hk : NumV w B n k) (nl : Norm l) (nk : Norm k) (hn : n ≤ 1000) :
    Calls Tryz.prog 46 #[.slice A n c, .slice B n d] w
      fun e w' => e = .returned (.int .i64 (cmpZ (val l) (val k))) ∧ Below w.heap.size w w' := by
  refine (callsIn_wide (n := 3)).1 ?_
  refine callsIn_of_wp_marks Tryz.func46 rfl trivial ?_ rfl
  simp only [Tryz.ntmps46, List.size_toArray, List.length_cons, List.length_nil, Nat.reduceAdd, Nat.reduceSub, Array.replicate_succ, Array.replicate_zero, List.push_toArray, List.append_toArray, List.nil_append, List.cons_append]
  have bM := Boxed.new w 48 (.slice B n d)
  have bR := Boxed.new (w.alloc (.cells #[.slice B n d] 48)) 3 (.int .i64 0)
  rw [World.size_alloc] at bR
  have bM2 := bM.alloc (.cells #[.int .i64 0] 3)
  have bS := Boxed.new ((w.alloc (.cells #[.slice B n d] 48)).alloc (.cells #[.int .i64 0] 3)) 48 (.slice A n c)
  simp only [World.size_alloc] at bS
  have hB0 : Below w.heap.size w (((w.alloc (.cells #[.slice B n d] 48)).alloc (.cells #[.int .i64 0] 3)).alloc (.cells #[.slice A n c] 48)) :=
    (((Below.refl _ w).alloc (Nat.le_refl _) _).alloc (by simp) _).alloc (by simp; omega) _
  have hln := Lib.hid hl.len
  have hkn := Lib.hid hk.len
  gi_wp2_with (refine ⟨trivial, ?_⟩; gi_at_call 60; refine (back_in _ _ _ _ _).mono ?_; rintro e w' ⟨rfl, rfl⟩)
  refine wpIn_rangeFunc_ownG rfl (by omega) (gf := 78) (lb := #[.pointer (some ⟨w.heap.size + 1 + 1, 0, none⟩)]) rfl trivial (enters_of Tryz.func78 (by kernel_rfl) rfl)
    (back_stops 2 (by omega) (w.heap.size + 1 + 1) w.heap.size A n c l (by omega) _ (by simp) (by simp; omega) bS.cell (Reads.keep hl fun p hp => hB0.cell hp)) KpB.trans (KpB.book (by simp; omega) (by simp)) (Below.refl _ _) (fun _ => rfl)
    (fun pre W => ((∀ p ∈ pre, gd l p.1 = gd k p.1) ∧ W.cell? ⟨w.heap.size + 1, 0, none⟩ = some (.int .i64 0) ∧ W.frozen? ⟨w.heap.size + 1, 0, none⟩ = false ∧ W.cell? ⟨w.heap.size, 0, none⟩ = some (.slice B n d)) ∧ Below w.heap.size w W)
    (fun cd pre W => (cd = .ret ∧ ∃ ini last, pre = ini ++ [last] ∧ (∀ p ∈ ini, gd l p.1 = gd k p.1) ∧ gd l last.1 ≠ gd k last.1 ∧ W.cell? ⟨w.heap.size + 1, 0, none⟩ = some (.int .i64 (cmpZ (gd l last.1 : Nat) (gd k last.1 : Nat)))) ∧ Below w.heap.size w W)
    (OwnFrom.and (Own.from (fun s A B row hs hg hr => ⟨hs.1, cell_kept hs.2.1 hg hr, (frozen_kept hs.2.1 hg hr).trans hs.2.2.1, cell_kept hs.2.2.2 hg hr⟩) _) (ownFrom_below (Nat.le_refl _) (by simp; omega)))
    (fun cd => OwnFrom.and (Own.from (fun s A B row hs hg hr => by obtain ⟨hc, ini, last, e1, e2, e3, e4⟩ := hs; exact ⟨hc, ini, last, e1, e2, e3, cell_kept e4 hg hr⟩) _) (ownFrom_below (Nat.le_refl _) (by simp; omega)))
    ⟨⟨by simp, (bR.alloc _).cell, (bR.alloc _).frozen, (bM2.alloc _).cell⟩, hB0⟩
    ?a1 ?assign ?body ?done ?stop
  case assign =>
    intro l x W K hK
    gi_wp2
    exact hK
  case body =>
    rintro q pre x W ⟨⟨hp, hcr, hfr, hcm⟩, hB⟩ hlt
    have hx : x.1 < n := by have := x.2; omega
    obtain ⟨ad, u, hA, hadb, hu, hcu⟩ := (Reads.below hk hB).at_ hx
    rw [ints_get k _ (by have := hkn.out; omega)] at hu
    injection hu with hu
    subst hu
    subst hA
    change W.cell? _ = some (.int .i64 (gd k x.1 : Nat)) at hcu
    have HP := Lib.hid hp
    clear hp
    by_cases he : gd l x.1 = gd k x.1
    · rw [← he] at hcu
      have HE := Lib.hid he
      clear he
      generalize hg : gd l x.1 = a at hcu HE ⊢
      have HG := Lib.hid hg
      clear hg
      have hne : ((a : Int) != (a : Int)) = false := by simp
      gi_wp2
      exact ⟨KeepsFrom.refl _ _, KpB.refl _ _ _, ⟨fun p hp' => (List.mem_append.1 hp').elim (HP.out p) (fun e => by obtain rfl := List.mem_singleton.1 e; rw [HG.out]; exact HE.out), hcr, hfr, hcm⟩, hB⟩
    · have HE := Lib.hid he
      generalize hg : gd l x.1 = a at hcu he ⊢
      generalize hg2 : gd k x.1 = b at hcu he ⊢
      have hne : ((a : Int) != (b : Int)) = true := by rw [bne_iff_ne]; omega
      have HG := Lib.hid hg
      have HG2 := Lib.hid hg2
      clear hg hg2 he
      gi_wp2_with (refine ⟨trivial, ?_⟩; gi_at_call 72; refine (CallsIn.inRound q (callsIn_wide.2 (cmp_any _ _ _))).mono ?_; rintro e w' ⟨rfl, rfl⟩)
      exact ⟨(KeepsOthers.setCell _ _ _).from _, ⟨rfl, pre, x, rfl, HP.out, HE.out, by rw [HG.out, HG2.out]; exact World.cell?_setCell_same' _ _ _ (by rw [hcr]; rfl)⟩, hB.setCell (p := ⟨w.heap.size + 1, 0, none⟩) (by simp) _⟩
  case done =>
    rintro D ys W hD rfl ⟨⟨hne, hcr, hfr, hcm⟩, hB⟩ hK
    gi_wp2
    have hK' := (KeepsOthers.setCell W ⟨w.heap.size + 1, 0, none⟩ (.int .i64 0)).same D _ hK rfl
    refine ⟨by simp, .inl ⟨_, _, rfl, run_takeDeferred hK', ?_⟩⟩
    have hc5 := cell_kept (World.cell?_setCell_same' W ⟨w.heap.size + 1, 0, none⟩ (.int .i64 0) (by rw [hcr]; rfl)) (grownBy_putObj' _ D (.deferred none)) (fun r e => by cases e; exact ⟨_, hK', rfl⟩)
    have hval : l = k := eq_of_get (by rw [← hln.out, ← hkn.out]) (fun j hj => by
      have := hne (bk n (n - 1 - j)) (by simp only [upto, List.mem_map, List.mem_range]; exact ⟨n - 1 - j, by have := hln.out; omega, rfl⟩)
      have e : (bk n (n - 1 - j)).1 = j := by unfold bk; have := hln.out; simp; omega
      rwa [e] at this)
    refine ⟨.int .i64 0, ?_, by rw [hval]; unfold cmpZ; simp, (hB.setCell (p := ⟨w.heap.size + 1, 0, none⟩) (by simp) _).trans (belowK_b (w := w) (Nat.le_refl _) _ D _ _ (by simp at hD; omega) hK' rfl rfl)⟩
    simp [results, Tryz.f46, go_sem, hc5]
  case stop =>
    rintro D cd pre W hD ⟨j, hj, rfl⟩ ⟨⟨rfl, ini, last, e1, e2, e3, hcr⟩, hB⟩ hK
    gi_wp2
    refine ⟨by simp, .inl ⟨_, _, rfl, run_takeDeferred hK, ?_⟩⟩
    have hc5 := cell_kept hcr (grownBy_putObj' _ D (.deferred none)) (fun r e => by cases e; exact ⟨_, hK, rfl⟩)
    obtain ⟨j', rfl⟩ : ∃ j', j = j' + 1 := by
      cases j with
      | zero => simp [upto] at e1
      | succ j' => exact ⟨j', rfl⟩
    rw [upto_succ] at e1
    obtain ⟨rfl, e5⟩ := List.append_inj' e1 rfl
    obtain rfl : bk n j' = last := by simpa using e5
    have hli := hln.out
    have hki := hkn.out
    have e6 : (bk n j').1 = n - 1 - j' := rfl
    rw [e6] at e3 hc5
    refine ⟨.int .i64 (cmpZ (gd l (n - 1 - j') : Nat) (gd k (n - 1 - j') : Nat)), ?_, ?_, hB.trans (belowK_b (w := w) (Nat.le_refl _) W D _ _ (by simp at hD; omega) hK rfl rfl)⟩
    · simp [results, Tryz.f46, go_sem, hc5]
    · rw [cmp_of_gd nl.1 nk.1 (by omega) (n - 1 - j') (by omega) e3 (fun t h1 h2 => by
        have := e2 (bk n (n - 1 - t)) (by simp only [upto, List.mem_map, List.mem_range]; exact ⟨n - 1 - t, by omega, rfl⟩)
        have e : (bk n (n - 1 - t)).1 = t := by unfold bk; simp; omega
        rwa [e] at this)]

set_option maxHeartbeats 1000000 in
theorem compare_other (A B : Option Addr) (n c m d : Nat) (w : World) (hne : n ≠ m) (_hn : n ≤ 1000) (_hm : m ≤ 1000) :
    Calls Tryz.prog 46 #[.slice A n c, .slice B m d] w
      fun e w' => e = .returned (.int .i64 (cmpZ n m)) ∧ Below w.heap.size w w' := by
  have h : ((n : Int) != (m : Int)) = true := by rw [bne_iff_ne]; omega
  go_enter Tryz.func46, Tryz.ntmps46
  go_wp2_with (go_at_call 72; refine (cmp_any _ _ _).mono ?_; rintro e w' ⟨rfl, rfl⟩)
  refine bodyPost_ret (v := .int .i64 (cmpZ n m)) (by simp [results, Tryz.f46, go_sem]) rfl ⟨rfl, ?_⟩
  exact ((((Below.refl _ _).alloc (Nat.le_refl _) _).alloc (by simp) _))
/-- compare: numbers are compared. -/
theorem compare_any (A B : Option Addr) (n c m d x y : Nat) (w : World) (hx : IsNum w A n c x) (hy : IsNum w B m d y) (hx1 : Mod x) (hy1 : Mod y) :
    Calls Tryz.prog 46 #[.slice A n c, .slice B m d] w
      fun e w' => e = .returned (.int .i64 (cmpZ x y)) ∧ Below w.heap.size w w' := by
  have hn := hx.le1 hx1
  have hm := hy.le1 hy1
  obtain ⟨l, hl, nl, vl, _⟩ := hx
  obtain ⟨k, hk, nk, vk, _⟩ := hy
  by_cases h : n = m
  · subst h
    rw [← vl, ← vk]
    exact compare_same A B n c d l k w hl hk nl nk hn
  · refine (compare_other A B n c m d w h hn hm).mono ?_
    rintro e w' ⟨rfl, hb⟩
    refine ⟨?_, hb⟩
    have h1 := hl.len
    have h2 := hk.len
    have h3 := cmp_of_length nl nk (by omega)
    rw [vl, vk, ← h1, ← h2] at h3
    rw [h3]
end Go.Proofs.YtnfkibgoockmpaaGreatDoor
