/-
  DriftOrder: points that change places in an owned row; what keeps while that row changes. The reference of drift: Same, at two histories of the same rate and points.
-/
import Derived.Deep.MidRow
import Derived.Test.YtngohpgkceedeaaGreatDoorWDArgs
import Derived.Test.YtngohpgkceedeaaGreatDoorWDSanePlain
import Derived.Test.YtngohpgkceedeaaGreatDoorWR12Made
set_option linter.unusedSimpArgs false
set_option linter.unusedVariables false
namespace Go.Proofs.YtngohpgkceedeaaGreatDoor
open Go Go.RowKit Go.Lib Go.Shelf

/-- Points that lie below an owned row stay as they are when the row grows. -/
def PLow (p : Option Addr) (l : List Pt) (n : Nat) : Prop := l = [] ∨ ∃ g, p = some ⟨g, 0, none⟩ ∧ g < n
theorem plow_at {W : World} {p : Option Addr} {l : List Pt} (h : PAt W p l) : PLow p l W.heap.size :=
  h.elim (fun h => .inl h.1) fun ⟨g, cur, e, hr, _⟩ => .inr ⟨g, e, hr.1⟩
theorem pat_grow {A B : World} {p : Option Addr} {l : List Pt} {n₀ k n : Nat} {T : TypeId} {v : Value} {xs : List Value} (h : PAt A p l) (hl : PLow p l n₀) (ho : A.ownsRow n₀ T k v n xs) (hg : A.grownBy B v.ownBlock) : PAt B p l := by
  rcases h with h | ⟨g, cur, rfl, hr, hx⟩
  · exact .inl h
  · rcases hl with rfl | ⟨g', e, hlt⟩
    · exact .inl ⟨rfl, .inr ⟨g, rfl⟩⟩
    · simp only [Option.some.injEq, Addr.mk.injEq, and_true] at e
      subst e
      exact .inr ⟨_, cur, rfl, own_row_ne ho hg hr hlt, hx⟩
/-- Values set one by one, from a place on. -/
def setsL (l : List Value) (o : Nat) : List Value → List Value
  | [] => l
  | v :: r => setsL (l.set o v) (o + 1) r
theorem setsL_take : ∀ (vs l : List Value) (o k : Nat), (setsL l o vs).take k = setsL (l.take k) o vs
  | [], _, _, _ => rfl
  | v :: r, l, o, k => by unfold setsL; rw [setsL_take r, List.take_set]
theorem setsL_app : ∀ (vs a b : List Value), vs.length ≤ b.length → setsL (a ++ b) a.length vs = a ++ (vs ++ b.drop vs.length)
  | [], a, b, _ => by simp [setsL]
  | v :: r, a, [], h => by simp at h
  | v :: r, a, y :: b, h => by
    unfold setsL
    rw [List.set_append_right _ _ (Nat.le_refl _), Nat.sub_self, List.set_cons_zero]
    have := setsL_app r (a ++ [v]) b (by simpa using h)
    rw [List.length_append, List.length_singleton, List.append_assoc, List.singleton_append] at this
    rw [this]
    simp
theorem pCells_sets {m : List Pt} {a : Nat} (p : Pt) (ha : a < m.length) : setsL (pCells m) (a * 5) (pC p) = pCells (m.set a p) := by
  have e : m.set a p = m.take a ++ p :: m.drop (a + 1) := by rw [List.set_eq_take_append_cons_drop, if_pos ha]
  have e2 : m = m.take a ++ m.drop a := (List.take_append_drop a m).symm
  have hl : (pCells (m.take a)).length = a * 5 := by rw [pCells_length, List.length_take, Nat.min_eq_left (by omega)]
  have h5 : (pC p).length = 5 := rfl
  rw [e, pCells_app, pCells_cons]
  conv => lhs; rw [e2, pCells_app, ← hl]
  have hd : pCells (m.drop (a + 1)) = (pCells (m.drop a)).drop 5 := by
    have := pCells_drop (m.drop a) 1
    rw [List.drop_drop] at this
    exact this
  rw [setsL_app _ _ _ (by rw [pCells_length, List.length_drop, h5]; omega), h5, hd]
/-- The same, of an array. -/
def setsA (c : Array Value) (o : Nat) : List Value → Array Value
  | [] => c
  | v :: r => setsA (c.setIfInBounds o v) (o + 1) r
theorem setsA_list : ∀ (vs : List Value) (c : Array Value) (o : Nat), (setsA c o vs).toList = setsL c.toList o vs
  | [], _, _ => rfl
  | v :: r, c, o => by unfold setsA setsL; rw [setsA_list r, Array.toList_setIfInBounds]
theorem Row.setCells_same : ∀ (vs : List Value) {W : World} {b : Nat} {c : Array Value} {T : TypeId} (o : Nat), Row W b (.cells c T) → Row (W.setCells b o vs) b (.cells (setsA c o vs) T)
  | [], _, _, _, _, _, h => h
  | v :: r, _, _, _, _, o, h => Row.setCells_same r (o + 1) (h.set_same rfl)
theorem Row.setCells_other : ∀ (vs : List Value) {W : World} {b g : Nat} {ob : Obj} (o : Nat), Row W b ob → b ≠ g → Row (W.setCells g o vs) b ob
  | [], _, _, _, _, _, h, _ => h
  | v :: r, _, _, _, _, o, h, hne => Row.setCells_other r (o + 1) (h.set_other v hne) hne
theorem below_setCells : ∀ (vs : List Value) {n : Nat} {a W : World} {g : Nat} (o : Nat), Below n a W → n ≤ g → Below n a (W.setCells g o vs)
  | [], _, _, _, _, _, h, _ => h
  | v :: r, _, _, _, _, o, h, hg => below_setCells r (o + 1) (h.setCell hg v) hg
theorem own_setD {w : World} {base : Nat} {e : TypeId} {size : Nat} {v : Value} {n : Nat} {xs : List Value} (h : w.ownsRow base e size v n xs) {b : Nat} (hb : v.ownBlock ≠ some b) (i : Nat) (u : Value) : (w.setCell ⟨b, i, none⟩ u).ownsRow base e size v n xs := ownsRow_setCell_other h (a := ⟨b, i, none⟩) hb u
theorem pat_setCells {W : World} {p : Option Addr} {l : List Pt} {g n : Nat} (vs : List Value) (o : Nat) (h : PAt W p l) (hl : PLow p l n) (hg : n ≤ g) : PAt (W.setCells g o vs) p l := by
  rcases h with h | ⟨b, cur, rfl, hr, hx⟩
  · exact .inl h
  · rcases hl with rfl | ⟨g', e, hlt⟩
    · exact .inl ⟨rfl, .inr ⟨b, rfl⟩⟩
    · simp only [Option.some.injEq, Addr.mk.injEq, and_true] at e
      subst e
      exact .inr ⟨_, cur, rfl, Row.setCells_other vs o hr (by omega), hx⟩
theorem setsA_size : ∀ (vs : List Value) (c : Array Value) (o : Nat), (setsA c o vs).size = c.size
  | [], _, _ => rfl
  | v :: r, c, o => by unfold setsA; rw [setsA_size r, Array.size_setIfInBounds]
/-- Cells that may be written. -/
theorem there_row {W : World} {g : Nat} {cur : Array Value} {T : TypeId} (r : Row W g (.cells cur T)) {o k : Nat} (h : o + k ≤ cur.size) : W.there g o k := fun j hj => ⟨by
  rw [Row.cell_at r (o + j) (Array.getElem?_eq_getElem (show o + j < cur.size by omega))]; rfl, frozen_of_row _ _ (o + j) _ _ r.2⟩
/-- An owned row of points, opened: its cells, and a way back for whatever points lie there. -/
theorem own_pts {W : World} {base n cap : Nat} {A : Option Addr} {m : List Pt} (hn : 0 < n) (h : W.ownsRow base 53 5 (.slice A n cap) n (pCells m)) :
    ∃ g cur, A = some ⟨g, 0, none⟩ ∧ base ≤ g ∧ Row W g (.cells cur 53) ∧ cur.toList.take (n * 5) = pCells m ∧ n * 5 ≤ cur.size ∧ m.length = n ∧
      ∀ W' cur' m', Row W' g (.cells cur' 53) → cur'.size = cur.size → cur'.toList.take (n * 5) = pCells m' → W'.ownsRow base 53 5 (.slice (some ⟨g, 0, none⟩) n cap) n (pCells m') := by
  obtain ⟨hl, h⟩ := h
  rcases h with ⟨_, rfl⟩ | ⟨g, cap', cur, he, hb, hg, h1, h2, h3, hx⟩
  · omega
  · simp only [Value.slice.injEq, true_and] at he
    obtain ⟨rfl, rfl⟩ := he
    have h5 : n * 5 ≤ cur.size := by rw [h3]; exact Nat.mul_le_mul_right _ h1
    have hm : m.length = n := by rw [pCells_length] at hl; omega
    refine ⟨g, cur, rfl, hb, ⟨(Array.getElem?_eq_some_iff.1 hg).1, hg⟩, hx, h5, hm, fun W' cur' m' hr hs hx' => ⟨?_, .inr ⟨g, _, cur', rfl, hb, hr.2, h1, h2, by rw [hs, h3], hx'⟩⟩⟩
    rw [← hx', List.length_take, Array.length_toList, hs]
    omega
theorem isInt_tdiv {z : Int} (h : IsInt z) : IsInt (z.tdiv 8) := by
  unfold IsInt at *
  rcases Int.le_total 0 z with h0 | h0
  · rw [Int.tdiv_eq_ediv_of_nonneg h0]; omega
  · have e : z.tdiv 8 = -((-z).tdiv 8) := by rw [Int.neg_tdiv, Int.neg_neg]
    rw [e, Int.tdiv_eq_ediv_of_nonneg (by omega)]
    omega
/-- A point of an owned row, by its cells. -/
theorem pts_vals {cur : Array Value} {m : List Pt} {n i : Nat} (hx : cur.toList.take (n * 5) = pCells m) (hm : m.length = n) (hi : i < n) : ∀ j, j < 5 → cur[i * 5 + j]? = (pC (ptD m i))[j]? := fun j hj => by
  have h := pCells_get (l := m) (i := i) (by omega) j hj
  rw [← hx, List.getElem?_take, if_pos (by omega), Array.getElem?_toList] at h
  exact h
theorem pts_swap {cur : Array Value} {m : List Pt} {n a b : Nat} (hx : cur.toList.take (n * 5) = pCells m) (hm : m.length = n) (ha : a < n) (hb : b < n) :
    (setsA (setsA cur (a * 5) (pC (ptD m b))) (b * 5) (pC (ptD m a))).toList.take (n * 5) = pCells (swp m a b) := by
  rw [setsA_list, setsL_take, setsA_list, setsL_take, hx, pCells_sets _ (by omega), pCells_sets _ (by rw [List.length_set]; omega)]
  rfl
/-- Points in memory are read one by one. -/
theorem reads_pat {W : World} {p : Option Addr} {l : List Pt} (h : PAt W p l) : Reads W W.heap.size 5 p l.length (pCells l) := by
  rcases h with ⟨rfl, _⟩ | ⟨g, cur, rfl, hr, hx⟩
  · exact Reads.nil
  · have := (reads_take (c := 0) hr hx (Nat.le_refl _)).more hr.1
    rw [List.take_length] at this
    exact this
theorem OW1 {P : Prop} (h : P := by repeat (first | (with_reducible assumption) | (with_reducible refine own_dr ?_) | (with_reducible refine own_drN ?_ _) | (with_reducible refine World.ownsRow.alloc ?_ _) | (with_reducible refine own_set_ge ?_ (by assumption) (by first | omega | (simp; omega))))) : P := h
theorem pC_one (p : Pt) : (pC p).toArray.all (·.oneCell') = true := by simp [pC, Value.oneCell']
theorem setCells_size : ∀ (vs : List Value) (W : World) (b o : Nat), (W.setCells b o vs).heap.size = W.heap.size
  | [], _, _, _ => rfl
  | v :: r, W, b, o => (setCells_size r (W.setCell ⟨b, o, none⟩ v) b (o + 1)).trans (by simp)
/-- The address of an element, at the list of a region's operations. -/
theorem wpList_index {P : Program} {ops : Array Oper} {rest : List Oper} {op : Oper} {a : Act} {w : World} {Q : Exit → Act → World → Prop} (hgd : op.guard = none) (t : TypeId) (x y : Operand) (ho : op.op = .indexAddr t x y) (vx vy : Value) (hx : a.eval x = vx) (hy : a.eval y = vy) (v : Value)
    (hr : (Instr.indexAt t vx vy).run P w = .ok v w) (h : wpList P ops Q rest (a.put op.dst v) w) : wpList P ops Q (op :: rest) a w :=
  wpList_plain hgd fun K hK => by
    unfold Oper.wp execOp
    simp only [ho, hx, hy, Sem.run_bind, Sem.run_pure, Result.andThen_ok, hr]
    exact hK _ _ h
end Go.Proofs.YtngohpgkceedeaaGreatDoor
namespace Go.Proofs.YtngohpgkceedeaaGreatDoor
open Go Go.RowKit Go.Lib Go.Shelf
attribute [local go_sem] normalQ

set_option maxRecDepth 100000 in
set_option maxHeartbeats 16000000 in
theorem r12same {r : Rat} {l : List Pt} (p q : Option Addr) (m c d : Nat) (hm : l.length = m) (hm1 : m ≤ 1000) (w : World) (hp : PAt w p l) (hq : PAt w q l) :
    Calls Tryz.prog 35 #[.agg #[.string (S r.num), .string (S (r.den : Int)), .slice p m c], .agg #[.string (S r.num), .string (S (r.den : Int)), .slice q m d]] w (BoolOk true w) := by
  have hB : Below w.heap.size w w := Below.refl _ _
  have HP := Lib.hid hp
  have HQ := Lib.hid hq
  have HM := Lib.hid hm
  clear hp hq hm
  go_enter Tryz.func35, Tryz.ntmps35
  go_wp2_with fail
  have sB := hB.size
  refine wp_cut (fun X => Below w.heap.size w X ∧ Row X w.heap.size (.cells #[.string (S r.num), .string (S (r.den : Int)), .slice p m c] 49) ∧ Row X (w.heap.size + 1) (.cells #[.string (S r.num), .string (S (r.den : Int)), .slice q m d] 49)) ⟨BW, RWk, RWk⟩ ?_
  clear hB sB
  rintro V1 ⟨hB, ra, rb⟩
  have Fa : ∀ X, Row X w.heap.size (.cells #[.string (S r.num), .string (S (r.den : Int)), .slice p m c] 49) → (w.heap.size < X.heap.size ∧ X.cell? ⟨w.heap.size, 0, none⟩ = some (.string (S r.num)) ∧ X.cell? ⟨w.heap.size, 1, none⟩ = some (.string (S (r.den : Int))) ∧ X.cell? ⟨w.heap.size, 2, none⟩ = some (.slice p m c)) := fun X h => ⟨h.1, Row.cell_at h 0 rfl, Row.cell_at h 1 rfl, Row.cell_at h 2 rfl⟩
  obtain ⟨sa, ca0, ca1, ca2⟩ := Fa _ ra
  have Fb : ∀ X, Row X (w.heap.size + 1) (.cells #[.string (S r.num), .string (S (r.den : Int)), .slice q m d] 49) → (w.heap.size + 1 < X.heap.size ∧ X.cell? ⟨w.heap.size + 1, 0, none⟩ = some (.string (S r.num)) ∧ X.cell? ⟨w.heap.size + 1, 1, none⟩ = some (.string (S (r.den : Int))) ∧ X.cell? ⟨w.heap.size + 1, 2, none⟩ = some (.slice q m d)) := fun X h => ⟨h.1, Row.cell_at h 0 rfl, Row.cell_at h 1 rfl, Row.cell_at h 2 rfl⟩
  obtain ⟨sb, cb0, cb1, cb2⟩ := Fb _ rb
  go_loopw [5] (fun v5 wr => ∃ i : Nat, v5 = .int .i64 (i : Int) ∧ i ≤ m ∧ Below w.heap.size w wr ∧ Row wr w.heap.size (.cells #[.string (S r.num), .string (S (r.den : Int)), .slice p m c] 49) ∧ Row wr (w.heap.size + 1) (.cells #[.string (S r.num), .string (S (r.den : Int)), .slice q m d] 49)) (fun v5 _ => (m - intOf v5).toNat)
  case atStart => exact ⟨0, rfl, Nat.zero_le _, hB, ra, rb⟩
  case round =>
    clear sa ca0 ca1 ca2
    clear sb cb0 cb1 cb2
    clear hB ra rb
    obtain ⟨i, rfl, him, hB, ra, rb⟩ := hrel
    rcases Nat.lt_or_ge i m with hlt | hge
    · have hlt' : i < l.length := by rw [HM.out]; exact hlt
      obtain ⟨u, hu⟩ : ∃ u, u = ptD l i := ⟨_, rfl⟩
      obtain ⟨g, cur, hpg, rg, g0, g1, g2, g3, g4⟩ := PAt.at (PAt.below HP.out hB) hlt'
      obtain ⟨k, cuk, hqk, rk, k0, k1, k2, k3, k4⟩ := PAt.at (PAt.below HQ.out hB) hlt'
      rw [← hu] at g0 g1 g2 g3 g4 k0 k1 k2 k3 k4
      subst hpg hqk
      clear hu
      have hi : (i : Int) < (m : Int) := by omega
      have Fa : ∀ X, Row X w.heap.size (.cells #[.string (S r.num), .string (S (r.den : Int)), .slice (some ⟨g, 0, none⟩) m c] 49) → (w.heap.size < X.heap.size ∧ X.cell? ⟨w.heap.size, 0, none⟩ = some (.string (S r.num)) ∧ X.cell? ⟨w.heap.size, 1, none⟩ = some (.string (S (r.den : Int))) ∧ X.cell? ⟨w.heap.size, 2, none⟩ = some (.slice (some ⟨g, 0, none⟩) m c)) := fun X h => ⟨h.1, Row.cell_at h 0 rfl, Row.cell_at h 1 rfl, Row.cell_at h 2 rfl⟩
      obtain ⟨sa, ca0, ca1, ca2⟩ := Fa _ ra
      have Fb : ∀ X, Row X (w.heap.size + 1) (.cells #[.string (S r.num), .string (S (r.den : Int)), .slice (some ⟨k, 0, none⟩) m d] 49) → (w.heap.size + 1 < X.heap.size ∧ X.cell? ⟨w.heap.size + 1, 0, none⟩ = some (.string (S r.num)) ∧ X.cell? ⟨w.heap.size + 1, 1, none⟩ = some (.string (S (r.den : Int))) ∧ X.cell? ⟨w.heap.size + 1, 2, none⟩ = some (.slice (some ⟨k, 0, none⟩) m d)) := fun X h => ⟨h.1, Row.cell_at h 0 rfl, Row.cell_at h 1 rfl, Row.cell_at h 2 rfl⟩
      obtain ⟨sb, cb0, cb1, cb2⟩ := Fb _ rb
      have Fg : ∀ X, Row X g (.cells cur 53) → (g < X.heap.size ∧ X.cell? ⟨g, i * 5, none⟩ = some (.int .i64 (u.t : Int)) ∧ X.cell? ⟨g, i * 5 + 1, none⟩ = some (.string (S u.iv.lo.num)) ∧ X.cell? ⟨g, i * 5 + 2, none⟩ = some (.string (S (u.iv.lo.den : Int))) ∧ X.cell? ⟨g, i * 5 + 3, none⟩ = some (.string (S u.iv.hi.num)) ∧ X.cell? ⟨g, i * 5 + 4, none⟩ = some (.string (S (u.iv.hi.den : Int)))) := fun X h => ⟨h.1, Row.cell_at h _ g0, Row.cell_at h _ g1, Row.cell_at h _ g2, Row.cell_at h _ g3, Row.cell_at h _ g4⟩
      obtain ⟨sg, cg0, cg1, cg2, cg3, cg4⟩ := Fg _ rg
      have Fk : ∀ X, Row X k (.cells cuk 53) → (k < X.heap.size ∧ X.cell? ⟨k, i * 5, none⟩ = some (.int .i64 (u.t : Int)) ∧ X.cell? ⟨k, i * 5 + 1, none⟩ = some (.string (S u.iv.lo.num)) ∧ X.cell? ⟨k, i * 5 + 2, none⟩ = some (.string (S (u.iv.lo.den : Int))) ∧ X.cell? ⟨k, i * 5 + 3, none⟩ = some (.string (S u.iv.hi.num)) ∧ X.cell? ⟨k, i * 5 + 4, none⟩ = some (.string (S (u.iv.hi.den : Int)))) := fun X h => ⟨h.1, Row.cell_at h _ k0, Row.cell_at h _ k1, Row.cell_at h _ k2, Row.cell_at h _ k3, Row.cell_at h _ k4⟩
      obtain ⟨sk, ck0, ck1, ck2, ck3, ck4⟩ := Fk _ rk
      go_wp2_with fail
      refine wp_region_vals [.pointer (some ⟨w.heap.size, 2, none⟩), .slice (some ⟨g, 0, none⟩) m c, .int .i64 (i : Int), .pointer (some ⟨g, i * 5, none⟩), .agg #[.int .i64 (u.t : Int), .string (S u.iv.lo.num), .string (S (u.iv.lo.den : Int)), .string (S u.iv.hi.num), .string (S (u.iv.hi.den : Int))], .pointer (some ⟨w.heap.size + 1, 2, none⟩), .slice (some ⟨k, 0, none⟩) m d, .int .i64 (i : Int), .pointer (some ⟨k, i * 5, none⟩), .agg #[.int .i64 (u.t : Int), .string (S u.iv.lo.num), .string (S (u.iv.lo.den : Int)), .string (S u.iv.hi.num), .string (S (u.iv.hi.den : Int))], .bool false] (by kernel_rfl) (by kernel_rfl) rfl (allVals.cons qv0 (allVals.cons (qv1 fun X h => Fa X (Row.below ra h)) (allVals.cons qv0 (allVals.cons (qvf hi) (allVals.cons (qv1 fun X h => Fg X (Row.below rg h)) (allVals.cons qv0 (allVals.cons (qv1 fun X h => Fb X (Row.below rb h)) (allVals.cons qv0 (allVals.cons (qvf hi) (allVals.cons (qv1 fun X h => Fk X (Row.below rk h)) (allVals.cons (qvf hi) trivial))))))))))) ?_
      rintro W h1
      clear sa ca0 ca1 ca2
      clear sb cb0 cb1 cb2
      clear sg cg0 cg1 cg2 cg3 cg4
      clear sk ck0 ck1 ck2 ck3 ck4
      replace hB := hB.trans (h1.mono hB.size)
      replace ra := Row.below ra h1
      replace rb := Row.below rb h1
      replace rg := Row.below rg h1
      replace rk := Row.below rk h1
      clear h1
      obtain ⟨sa, ca0, ca1, ca2⟩ := Fa _ ra
      obtain ⟨sb, cb0, cb1, cb2⟩ := Fb _ rb
      obtain ⟨sg, cg0, cg1, cg2, cg3, cg4⟩ := Fg _ rg
      obtain ⟨sk, ck0, ck1, ck2, ck3, ck4⟩ := Fk _ rk
      simp only [setVals, List.setIfInBounds_toArray, List.set_cons_succ, List.set_cons_zero]
      go_wp2
      go_roundw
      case rel => exact ⟨i + 1, by go_num, by omega, BW, RWh, RWh⟩
      case measure => simp [intOf]; omega
    · obtain rfl : m = i := by omega
      have Fa : ∀ X, Row X w.heap.size (.cells #[.string (S r.num), .string (S (r.den : Int)), .slice p m c] 49) → (w.heap.size < X.heap.size ∧ X.cell? ⟨w.heap.size, 0, none⟩ = some (.string (S r.num)) ∧ X.cell? ⟨w.heap.size, 1, none⟩ = some (.string (S (r.den : Int))) ∧ X.cell? ⟨w.heap.size, 2, none⟩ = some (.slice p m c)) := fun X h => ⟨h.1, Row.cell_at h 0 rfl, Row.cell_at h 1 rfl, Row.cell_at h 2 rfl⟩
      obtain ⟨sa, ca0, ca1, ca2⟩ := Fa _ ra
      have Fb : ∀ X, Row X (w.heap.size + 1) (.cells #[.string (S r.num), .string (S (r.den : Int)), .slice q m d] 49) → (w.heap.size + 1 < X.heap.size ∧ X.cell? ⟨w.heap.size + 1, 0, none⟩ = some (.string (S r.num)) ∧ X.cell? ⟨w.heap.size + 1, 1, none⟩ = some (.string (S (r.den : Int))) ∧ X.cell? ⟨w.heap.size + 1, 2, none⟩ = some (.slice q m d)) := fun X h => ⟨h.1, Row.cell_at h 0 rfl, Row.cell_at h 1 rfl, Row.cell_at h 2 rfl⟩
      obtain ⟨sb, cb0, cb1, cb2⟩ := Fb _ rb
      go_wp2
      go_ret
      exact ⟨rfl, hB⟩
end Go.Proofs.YtngohpgkceedeaaGreatDoor
