/-
  times: a product of absolute values.
-/
import Derived.Test.YtnfkibgoockmpaaGreatDoorCmp
import Derived.Maps.AppendAt
namespace Go.Proofs.YtnfkibgoockmpaaGreatDoor
open Go Go.RowKit Go.Lib Go.Shelf
attribute [local go_sem] Oper.semAt_some

/-! ### What stays a number -/
theorem NumV.kept {W W' : World} {A : Option Addr} {n : Nat} {l : List Nat} {row : Option Nat} (h : NumV W A n l) (hg : W.grownBy W' row) (hr : ∀ r, row = some r → ∃ o : Obj, W.heap[r]? = some o ∧ o.isCells = false) : NumV W' A n l := by
  refine ⟨h.1, fun hn => ?_⟩
  obtain ⟨ad, e, hb, hc⟩ := h.2 hn
  exact ⟨ad, e, Nat.lt_of_lt_of_le hb hg.size, fun j u hu => cell_kept (hc j u hu) hg hr⟩
theorem IsNum.kept {W W' : World} {A : Option Addr} {n c x : Nat} {row : Option Nat} (h : IsNum W A n c x) (hg : W.grownBy W' row) (hr : ∀ r, row = some r → ∃ o : Obj, W.heap[r]? = some o ∧ o.isCells = false) : IsNum W' A n c x :=
  let ⟨l, h1, h2, h3, h4⟩ := h; ⟨l, h1.kept hg hr, h2, h3, h4⟩
theorem IsNum.setCell {W : World} {A : Option Addr} {n c x : Nat} (h : IsNum W A n c x) {b : Nat} {t : TypeId} {v : Value} (hb : Boxed W b t v) (hv : ∀ a x, v ≠ .int a x) (u : Value) : IsNum (W.setCell ⟨b, 0, none⟩ u) A n c x := by
  obtain ⟨l, h1, h2, h3, h4⟩ := h
  refine ⟨l, ⟨h1.1, fun hn => ?_⟩, h2, h3, h4⟩
  obtain ⟨ad, e, hlt, hc⟩ := h1.2 hn
  refine ⟨ad, e, by simpa [World.setCell] using hlt, fun j u' hu => ?_⟩
  have hcell := hc j u' hu
  by_cases he : (ad.add j).block = b
  · -- the box holds no int; so the cell is none of its
    exfalso
    have hbx : W.heap[b]? = some (.cells #[v] t (0, 0)) := hb
    have hu2 : ∃ a x, u' = .int a x := by
      unfold ints at hu
      rw [List.getElem?_map] at hu
      cases hl : l[j]? with
      | none => rw [hl] at hu; cases hu
      | some y => rw [hl] at hu; simp at hu; exact ⟨_, _, hu.symm⟩
    obtain ⟨a', x', rfl⟩ := hu2
    unfold World.cell? at hcell
    rw [he, hbx] at hcell
    simp only at hcell
    split at hcell
    · cases hcell
    · rw [List.getElem?_toArray] at hcell
      rcases Nat.eq_zero_or_pos (ad.add j).off with e0 | e0
      · rw [e0] at hcell; simp at hcell; exact hv _ _ hcell
      · rw [List.getElem?_eq_none (by simp; omega)] at hcell; cases hcell
  · rw [World.cell?_setCell_other W _ _ u (fun e => he (by rw [← e]))]
    exact hcell
theorem IsNum.alloc {W : World} {A : Option Addr} {n c x : Nat} (h : IsNum W A n c x) (o : Obj) : IsNum (W.alloc o) A n c x := h.below ((Below.refl _ _).alloc (Nat.le_refl _) o)
theorem IsNum.nil {W : World} {c : Nat} : IsNum W none 0 c 0 := ⟨[], NumV.nil, norm_nil, rfl, by omega⟩

/-- What has been added up when the places pre have come. -/
def prodTo (x : Nat) (k : List Nat) {m : Nat} (pre : List (Place m)) : Nat := pre.foldl (fun a i => a * 10000 + x * gd k i.1) 0
theorem prodTo_snoc (x : Nat) (k : List Nat) {m : Nat} (pre : List (Place m)) (i : Place m) : prodTo x k (pre ++ [i]) = prodTo x k pre * 10000 + x * gd k i.1 := by simp [prodTo]
theorem Small.gd_lt {k : List Nat} (h : Small k) (i : Nat) : gd k i < 10000 := h.get i
theorem prodTo_lt {x N : Nat} {k : List Nat} (hx : x < 10000 ^ N) (hk : Small k) {m : Nat} (pre : List (Place m)) : prodTo x k pre < 10000 ^ (N + 2 * pre.length + 1) := by
  generalize hp : pre.length = p
  induction p generalizing pre with
  | zero =>
    obtain rfl := List.length_eq_zero_iff.1 hp
    simp only [prodTo, List.foldl_nil]
    exact Nat.pow_pos (by decide)
  | succ p ih =>
    obtain ⟨ini, i, rfl⟩ : ∃ ini i, pre = ini ++ [i] := ⟨pre.dropLast, pre.getLast (by intro e; rw [e] at hp; cases hp), (List.dropLast_concat_getLast _).symm⟩
    rw [prodTo_snoc]
    have h1 := ih ini (by simpa using hp)
    have h2 := hk.gd_lt i.1
    have h3 : x * gd k i.1 ≤ 10000 ^ N * 10000 := Nat.mul_le_mul (by omega) (by omega)
    have h4 : 10000 ^ N * 10000 = 10000 ^ (N + 1) := by rw [Nat.pow_succ]
    have h5 : 10000 ^ (N + 1) ≤ 10000 ^ (N + 2 * p + 1 + 1) := Nat.pow_le_pow_right (by decide) (by omega)
    have h6 : 10000 ^ (N + 2 * p + 1 + 1) = 10000 ^ (N + 2 * p + 1) * 10000 := by rw [Nat.pow_succ]
    have h7 : 10000 ^ (N + 2 * (p + 1) + 1) = 10000 ^ (N + 2 * p + 1 + 1) * 10000 := by rw [show N + 2 * (p + 1) + 1 = N + 2 * p + 1 + 1 + 1 by omega, Nat.pow_succ]
    omega
theorem getD_drop' (l : List Nat) (i : Nat) (h : i < l.length) : l.drop i = gd l i :: l.drop (i + 1) := getD_drop l i h
theorem prodTo_upto (x : Nat) (k : List Nat) (m : Nat) (hm : m = k.length) : ∀ j, j ≤ m → prodTo x k (upto (bk m) j) = x * val (k.drop (m - j)) := by
  intro j
  induction j with
  | zero => intro _; rw [List.drop_of_length_le (by omega)]; simp [upto, prodTo, val]
  | succ j ih =>
    intro hj
    rw [upto_succ, prodTo_snoc, ih (by omega)]
    have e : (bk m j).1 = m - (j + 1) := by unfold bk; simp; omega
    rw [e, getD_drop' k (m - (j + 1)) (by omega), show m - (j + 1) + 1 = m - j by omega]
    simp only [val]
    rw [Nat.mul_add, Nat.mul_left_comm]
    omega
theorem prodTo_all (x : Nat) (k : List Nat) (m : Nat) (hm : m = k.length) : prodTo x k (upto (bk m) m) = x * val k := by
  rw [prodTo_upto x k m hm m (Nat.le_refl _), Nat.sub_self, List.drop_zero]
/-- A group put in front. -/
theorem cons_num {l : List Nat} {r : Nat} (h : Norm l) (hr : r < 10000) (hn : l ≠ []) : Norm (r :: l) ∧ val (r :: l) = val l * 10000 + r := by
  refine ⟨⟨Small.mk hr h.1, ?_⟩, by simp only [val]; omega⟩
  cases l with
  | nil => exact absurd rfl hn
  | cons d l => rw [List.getLast?_cons_cons]; exact h.2

theorem keepsFrom_of_below {B : Nat} {W W' : World} (h : Below W.heap.size W W') : KeepsFrom B W W' :=
  ⟨h.size, fun k _ _ hk _ => (h.block k (Array.getElem?_eq_some_iff.1 hk).1).trans hk⟩
theorem boxed_later {W W' : World} {b : Nat} {t : TypeId} {v : Value} (h : Boxed W b t v) (hb : Below W.heap.size W W') : Boxed W' b t v := (hb.block b h.lt).trans h
theorem boxed_far {W : World} {b b' : Nat} {t : TypeId} {v : Value} (h : Boxed W b t v) (hne : b ≠ b') (u : Value) : Boxed (W.setCell ⟨b', 0, none⟩ u) b t v := (Below.heap_setCell W ⟨b', 0, none⟩ u b hne).trans h
/-- A draw counts nothing. -/
theorem below_of_drew {W W' : World} (h : Below W.drew.heap.size W.drew W') : Below W.heap.size W W' := ⟨h.os, h.tape, h.output, h.size, h.block⟩

set_option maxRecDepth 100000 in
set_option maxHeartbeats 4000000 in
/-- times: a product. -/
theorem times_any (A B : Option Addr) (n c m d x y : Nat) (w : World) (hx : IsNum w A n c x) (hy : IsNum w B m d y) (hx1 : x < 10000 ^ 250) (hy1 : y < 10000 ^ 250) :
    Calls Tryz.prog 41 #[.slice A n c, .slice B m d] w (GivesNum (x * y) w) := by
  have hm := hy.le hy1
  obtain ⟨k, hk, nk, vk, _⟩ := hy
  have hln := Lib.hid hk.len
  have HX1 := Lib.hid hx1
  clear hx1 hy1
  obtain ⟨i0, hi, hz0, hz1, hz2⟩ := info_parts intInfo
  refine (callsIn_wide (n := 3)).1 ?_
  refine callsIn_of_wp_marks Tryz.func41 rfl trivial ?_ rfl
  simp only [Tryz.ntmps41, List.size_toArray, List.length_cons, List.length_nil, Nat.reduceAdd, Nat.reduceSub, Array.replicate_succ, Array.replicate_zero, List.push_toArray, List.append_toArray, List.nil_append, List.cons_append]
  have bL := Boxed.new w 48 (.slice A n c)
  have bO := Boxed.new (w.alloc (.cells #[.slice A n c] 48)) 48 (.slice none 0 0)
  rw [World.size_alloc] at bO
  have bL2 := bL.alloc (.cells #[.slice none 0 0] 48)
  have bS := Boxed.new ((w.alloc (.cells #[.slice A n c] 48)).alloc (.cells #[.slice none 0 0] 48)) 48 (.slice B m d)
  simp only [World.size_alloc] at bS
  have hB0 : Below w.heap.size w (((w.alloc (.cells #[.slice A n c] 48)).alloc (.cells #[.slice none 0 0] 48)).alloc (.cells #[.slice B m d] 48)) :=
    (((Below.refl _ w).alloc (Nat.le_refl _) _).alloc (by simp) _).alloc (by simp; omega) _
  gi_wp2_with (refine ⟨trivial, ?_⟩; gi_at_call 60; refine (back_in _ _ _ _ _).mono ?_; rintro e w' ⟨rfl, rfl⟩)
  refine wpIn_rangeFunc_ownG rfl (by omega) (gf := 78) (lb := #[.pointer (some ⟨w.heap.size + 1 + 1, 0, none⟩)]) rfl trivial (enters_of Tryz.func78 (by kernel_rfl) rfl)
    (back_stops 2 (by omega) (w.heap.size + 1 + 1) w.heap.size B m d k (by omega) _ (by simp) (by simp; omega) bS.cell (Reads.keep hk fun p hp => hB0.cell hp)) KpB.trans (KpB.book (by simp; omega) (by simp)) (Below.refl _ _) (fun _ => rfl)
    (fun pre W => (∃ Ao no co, Boxed W (w.heap.size + 1) 48 (.slice Ao no co) ∧ IsNum W Ao no co (prodTo x k pre) ∧ Boxed W w.heap.size 48 (.slice A n c) ∧ Boxed W (w.heap.size + 1 + 1) 48 (.slice B m d)) ∧ Below w.heap.size w W)
    (fun _ _ _ => False)
    (OwnFrom.and (Own.from (fun s X Y row hs hg hr => by
      obtain ⟨Ao, no, co, h1, h2, h3, h4⟩ := hs
      have key : ∀ b t v, Boxed X b t v → some b ≠ row := fun b t v hb e => by
        obtain ⟨o, ho, hc⟩ := hr b e.symm
        rw [show X.heap[b]? = _ from hb] at ho; cases ho; cases hc
      exact ⟨Ao, no, co, h1.kept hg (key _ _ _ h1), h2.kept hg hr, h3.kept hg (key _ _ _ h3), h4.kept hg (key _ _ _ h4)⟩) _) (ownFrom_below (Nat.le_refl _) (by simp; omega)))
    (fun _ _ _ _ _ hs _ _ => hs)
    ⟨⟨none, 0, 0, bO.alloc _, by simpa [prodTo] using IsNum.nil, bL2.alloc _, bS⟩, hB0⟩
    ?a1 ?assign ?body ?done ?stop
  case assign =>
    intro q x W K hK
    gi_wp2
    exact hK
  case body =>
    rintro q pre i W ⟨⟨Ao, no, co, hO, hN, hL, hS⟩, hB⟩ hlt
    have hcO := hO.cell
    have hfO := hO.frozen
    have hcL := hL.cell
    have hmx : Tryz.prog.follows .mixedOrders = true := by kernel_rfl
    have hxW := hx.below hB
    have hMx : Mod x := mod_of_pow HX1.out (by omega)
    have hd1 := nk.1.gd_lt i.1
    have HP1 : Hid (Mod (prodTo x k pre * 10000)) := by
      have h1 := prodTo_lt HX1.out nk.1 pre
      have h2 : prodTo x k pre * 10000 < 10000 ^ (250 + 2 * pre.length + 1) * 10000 := Nat.mul_lt_mul_of_pos_right h1 (by decide)
      rw [← Nat.pow_succ] at h2
      exact mod_of_pow h2 (by omega)
    have HP2 : Hid (Mod (x * gd k i.1)) := by
      have h2 : x * gd k i.1 < 10000 ^ 250 * 10000 := by
        have h3 : x * gd k i.1 ≤ x * 10000 := Nat.mul_le_mul_left _ (by omega)
        have h4 : x * 10000 < 10000 ^ 250 * 10000 := Nat.mul_lt_mul_of_pos_right HX1.out (by decide)
        exact Nat.lt_of_le_of_lt h3 h4
      rw [← Nat.pow_succ] at h2
      exact mod_of_pow h2 (by omega)
    have HMX := Lib.hid hMx
    have HXW := Lib.hid hxW
    clear hMx hxW
    by_cases hz : prodTo x k pre = 0
    · have hno : no = 0 := hN.zero.2 hz
      have hN' : IsNum W Ao no co (prodTo x k pre * 10000) := by rw [hz] at hN ⊢; exact hN
      subst hno
      have HN := Lib.hid hN'
      clear hN hN' hz
      gi_wp2
      gi_region_with_o (first
        | (refine ⟨trivial, ?_⟩; gi_at_call 64; refine (CallsIn.inRound q (callsIn_wide.2 (by_any A n c x (gd k i.1) _ (by exact HXW.out) HMX.out hd1))).mono ?_; rintro e W3 ⟨A3, n3, c3, rfl, h3, hb3⟩; have hO3 : Boxed W3 (w.heap.size + 1) 48 (.slice Ao 0 co) := boxed_later hO (below_of_drew hb3); have hL3 : Boxed W3 w.heap.size 48 (.slice A n c) := boxed_later hL (below_of_drew hb3); have hcO3 := hO3.cell; have hcL3 := hL3.cell; have hN3 := Lib.hid (HN.out.below (below_of_drew hb3)))
        | (refine ⟨trivial, ?_⟩; gi_at_call 43; refine (CallsIn.inRound q (callsIn_wide.2 (plus_any Ao A3 0 co n3 c3 (prodTo x k pre * 10000) (x * gd k i.1) _ (by exact hN3.out) (by exact h3) HP1.out HP2.out))).mono ?_; rintro e W4 ⟨A4, n4, c4, rfl, h4, hb4⟩; have hO4 := boxed_later hO3 hb4; have hL4 := boxed_later hL3 hb4; have hcO4 := hO4.cell; have hfO4 := hO4.frozen))
      all_goals gi_wp2
      all_goals
        have hW4 : Below W.heap.size W W4 := (below_of_drew hb3).trans (hb4.mono (below_of_drew hb3).size)
        exact ⟨(keepsFrom_of_below hW4).trans ((KeepsOthers.setCell _ _ _).from _), (KpB.of_below hW4 (by have := hL.lt; omega) (by have := hS.lt; omega)).trans (KpB.set (by simp) (by simp) _), ⟨A4, n4, c4, hO4.set _, by rw [prodTo_snoc]; exact h4.setCell hO4 (fun a x e => by cases e) _, boxed_far hL4 (by omega) _, boxed_far (boxed_later hS hW4) (by omega) _⟩, (hB.trans (hW4.mono hB.size)).setCell (p := ⟨w.heap.size + 1, 0, none⟩) (by simp) _⟩
    · have hno : 0 < no := by
        rcases Nat.eq_zero_or_pos no with e | e
        · exact absurd (hN.zero.1 e) hz
        · exact e
      obtain ⟨l0, hl0, nl0, vl0, hco⟩ := hN
      obtain ⟨ad, hAo, hadb, hcells⟩ := hl0.2 hno
      subst hAo
      have hl0n := hl0.len
      have hne0 : l0 ≠ [] := by intro e; rw [e] at hl0n; simp at hl0n; omega
      obtain ⟨nl1, vl1⟩ := cons_num (r := 0) nl0 (by decide) hne0
      have hno3 : no ≤ 1000 := by
        have := prodTo_lt HX1.out nk.1 pre
        have h9 : IsNum W (some ad) no co (prodTo x k pre) := ⟨l0, hl0, nl0, vl0, hco⟩
        have := h9.le this
        omega
      have hlit := World.ownsRow_lit (base := W.heap.size) (e := 3) (size := 1) W #[.int .i64 0] 1 (Nat.le_refl _) (by unfold maxLen; omega) rfl
      have HV := Lib.hid vl0
      have HV1 := Lib.hid vl1
      have HLN0 := Lib.hid hl0n
      have HC0 := Lib.hid hcells
      clear vl0 vl1 hl0n hcells hz
      have hcOa : (W.alloc (.cells #[.int .i64 0] 3)).cell? ⟨w.heap.size + 1, 0, none⟩ = some (.slice (some ad) no co) := cell_keep _ hcO
      gi_wp2_with (gi_at_builtin; refine wpListIn_append_own _ rfl (.tmp 15) (.tmp 16) 48 rfl W.heap.size 3 i0 (.int .i64 0) 1 8 Tryz.underlying48 hi hz0 hz1 hz2 rfl (by decide) (.slice (some ⟨W.heap.size, 0, none⟩) 1 1) 1 [.int .i64 0] rfl hlit ad no co (ints l0) rfl (by rw [ints_length, Nat.mul_one]; exact HLN0.out.symm) (fun j u hu => by rw [World.cell?_alloc_lt _ _ _ (by rw [block_of_add]; exact hadb)]; exact HC0.out j u hu) (ints_one l0) (by unfold maxLen; omega) (by omega) (by simp) ?_; intro v' W1 hown1 hgrow1 _; obtain ⟨A1, c1, rfl⟩ := own_slice hown1; have hbW1 : Below W.heap.size W W1 := ((Below.refl _ _).alloc (Nat.le_refl _) _).grown hgrow1 (by simp) (fun g hg => by simp [Value.ownBlock] at hg; omega); have hO1 := boxed_later hO hbW1; have hL1 := boxed_later hL hbW1; have hS1 := boxed_later hS hbW1; have hcO1 := hO1.cell; have hfO1 := hO1.frozen; have hcL1 := hL1.cell)
      have hnew : IsNum W1 A1 (1 + no) c1 (prodTo x k pre * 10000) := ⟨0 :: l0, by
        have := Reads.of_own hown1
        exact this, nl1, by rw [HV1.out, HV.out]; rfl, own_le hown1⟩
      have hN2 := hnew.setCell hO1 (fun a x e => by cases e) (.slice A1 (1 + no) c1)
      have hO2 := hO1.set (.slice A1 (1 + no) c1)
      have hL2 := boxed_far hL1 (b' := w.heap.size + 1) (by omega) (.slice A1 (1 + no) c1)
      have hS2 := boxed_far hS1 (b' := w.heap.size + 1) (by omega) (.slice A1 (1 + no) c1)
      have hk2 : ∀ B, KeepsFrom B W (W1.setCell ⟨w.heap.size + 1, 0, none⟩ (.slice A1 (1 + no) c1)) := fun _ => (keepsFrom_of_below hbW1).trans ((KeepsOthers.setCell _ _ _).from _)
      have hp2 : KpB w.heap.size (w.heap.size + 1 + 1) W (W1.setCell ⟨w.heap.size + 1, 0, none⟩ (.slice A1 (1 + no) c1)) := (KpB.of_below hbW1 (by have := hL.lt; omega) (by have := hS.lt; omega)).trans (KpB.set (by simp) (by simp) _)
      have hB2 : Below w.heap.size w (W1.setCell ⟨w.heap.size + 1, 0, none⟩ (.slice A1 (1 + no) c1)) := (hB.trans (hbW1.mono hB.size)).setCell (p := ⟨w.heap.size + 1, 0, none⟩) (by simp) _
      generalize W1.setCell ⟨w.heap.size + 1, 0, none⟩ (.slice A1 (1 + no) c1) = W2 at *
      have hcO2 := hO2.cell
      have hfO2 := hO2.frozen
      have hcL2 := hL2.cell
      have HN2 := Lib.hid hN2
      have HXW2 := Lib.hid (hx.below hB2)
      clear hN2 hnew hown1 hgrow1 hlit hO1 hL1 hS1 hcO1 hfO1 hcL1 hbW1 hcO hfO hcL HXW hcOa
      have HXW := HXW2
      gi_region_with_o (first
        | (refine ⟨trivial, ?_⟩; gi_at_call 64; refine (CallsIn.inRound q (callsIn_wide.2 (by_any A n c x (gd k i.1) _ (by exact HXW.out) HMX.out hd1))).mono ?_; rintro e W3 ⟨A3, n3, c3, rfl, h3, hb3⟩; have hO3 : Boxed W3 (w.heap.size + 1) 48 (.slice A1 (1 + no) c1) := boxed_later hO2 (below_of_drew hb3); have hL3 : Boxed W3 w.heap.size 48 (.slice A n c) := boxed_later hL2 (below_of_drew hb3); have hcO3 := hO3.cell; have hcL3 := hL3.cell; have hN3 := Lib.hid (HN2.out.below (below_of_drew hb3)))
        | (refine ⟨trivial, ?_⟩; gi_at_call 43; refine (CallsIn.inRound q (callsIn_wide.2 (plus_any A1 A3 (1 + no) c1 n3 c3 (prodTo x k pre * 10000) (x * gd k i.1) _ (by exact hN3.out) (by exact h3) HP1.out HP2.out))).mono ?_; rintro e W4 ⟨A4, n4, c4, rfl, h4, hb4⟩; have hO4 := boxed_later hO3 hb4; have hL4 := boxed_later hL3 hb4; have hcO4 := hO4.cell; have hfO4 := hO4.frozen))
      all_goals gi_wp2
      all_goals
        have hW4 : Below W2.heap.size W2 W4 := (below_of_drew hb3).trans (hb4.mono (below_of_drew hb3).size)
        exact ⟨((hk2 _).trans (keepsFrom_of_below hW4)).trans ((KeepsOthers.setCell _ _ _).from _), (hp2.trans (KpB.of_below hW4 (by have := hL2.lt; omega) (by have := hS2.lt; omega))).trans (KpB.set (by simp) (by simp) _), ⟨A4, n4, c4, hO4.set _, by rw [prodTo_snoc]; exact h4.setCell hO4 (fun a x e => by cases e) _, boxed_far hL4 (by omega) _, boxed_far (boxed_later hS2 hW4) (by omega) _⟩, (hB2.trans (hW4.mono hB2.size)).setCell (p := ⟨w.heap.size + 1, 0, none⟩) (by simp) _⟩
  case done =>
    rintro D ys W hD rfl ⟨⟨Ao, no, co, hO, hN, hL, hS⟩, hB⟩ hK
    have hcO := hO.cell
    rw [prodTo_all x k m hln.out, vk] at hN
    have HN := Lib.hid hN
    clear hN
    gi_wp2
    refine ⟨by simp, .inl ⟨_, _, rfl, run_takeDeferred hK, ?_⟩⟩
    exact ⟨_, results_tmp rfl _ _ _, Ao, no, co, rfl, HN.out.kept (grownBy_putObj' _ D (.deferred none)) (fun r e => by cases e; exact ⟨_, hK, rfl⟩), hB.trans (belowK_b (w := w) (Nat.le_refl _) W D _ _ (by simp at hD; omega) hK rfl rfl)⟩
  case stop =>
    rintro D cd pre W hD _ h
    exact h.elim
end Go.Proofs.YtnfkibgoockmpaaGreatDoor
