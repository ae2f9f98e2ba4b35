/-
  A loop, round by round: for loops whose number of rounds is known. Chains of tactics behind the names of theorems whose last argument is automatic: the chain runs where the name stands. Rows, what lies below, and the obligations of a region whose values are known. Histories in memory: what a slice of points holds; copies within rows of elements of more than one cell. The exported functions, over strings: FromInt.
-/
import Derived.Laws.CopyRow
import Derived.Laws.IdiomCopy
import Derived.Maps.AppendAt
import Derived.OneCell
import Derived.Test.YtngohpgkceedeaaGreatDoorWDPlain2
import Derived.Test.YtngohpgkceedeaaGreatDoorWQPlain7
import Derived.Test.YtngohpgkceedeaaGreatDoorWQuiet
import Derived.Test.YtngohpgkceedeaaGreatDoorWStr3
set_option linter.unusedSimpArgs false
set_option linter.unusedVariables false
namespace Go.Proofs.YtngohpgkceedeaaGreatDoor
open Go Go.RowKit Go.Lib Go.Shelf

/-- The loop's body stands ahead, the loop behind it. -/
def loopWp (P : Program) (c : Code) (Q : Exit → Act → World → Prop) (a : Act) (w : World) : Prop :=
  ∀ (b : Frame) (k : List Item) (cs : List Frame), ∃ e a' w', Q e a' w' ∧ Arrives P (lone (b.at a (.code c :: .inLoop c :: k)) cs w) b k cs e a' w'
theorem wp_loop_unroll {P : Program} {c : Code} {Q : Exit → Act → World → Prop} {a : Act} {w : World} (h : loopWp P c Q a w) : (Code.loop c).wp P Q a w :=
  fun b k cs => let ⟨e, a', w', q, r⟩ := h b k cs; ⟨e, a', w', q, .of_steps (.one step_loop) r⟩
theorem loopWp_step {P : Program} {c : Code} {Q : Exit → Act → World → Prop} {a : Act} {w : World} (h : c.wp P (Exit.then (loopWp P c Q) Q) a w) : loopWp P c Q a w := by
  intro b k cs
  obtain ⟨e, a₁, w₁, hq, harr⟩ := h b (.inLoop c :: k) cs
  cases e with
  | normal =>
    obtain ⟨e₂, a₂, w₂, hq₂, harr₂⟩ := hq b k cs
    exact ⟨e₂, a₂, w₂, hq₂, .of_steps (Steps.trans harr (.one step_inLoop)) harr₂⟩
  | exit id => exact ⟨_, a₁, w₁, hq, .pass (x := .inLoop c) rfl (fun _ _ => .inl (by simp)) harr⟩
  | goto l => exact ⟨_, a₁, w₁, hq, .pass (x := .inLoop c) rfl (fun _ _ => .inl (by simp)) harr⟩
  | ret => exact ⟨_, a₁, w₁, hq, .pass (x := .inLoop c) rfl (fun _ _ => .inl (by simp)) harr⟩
  | panic ch => exact ⟨_, a₁, w₁, hq, .pass (x := .inLoop c) rfl (fun _ _ => .inl (by simp)) harr⟩
  | outgrown => exact ⟨_, a₁, w₁, hq, .pass (x := .inLoop c) rfl (fun _ _ => .inl (by simp)) harr⟩
end Go.Proofs.YtngohpgkceedeaaGreatDoor
namespace Go.Proofs.YtngohpgkceedeaaGreatDoor
open Go Go.RowKit Go.Lib Go.Shelf

theorem Row.cell_lit {W : World} {b : Nat} {vs : Array Value} {t : TypeId} (h : Row W b (.cells vs t)) (i : Nat) {v : Value} (hv : vs[i]? = some v) : W.cell? ⟨b, i, none⟩ = some v := by
  have h2 : W.heap[b]? = some (.cells vs t) := h.2
  simp [World.cell?, h2, hv]
theorem Row.cell_take {W : World} {g m k : Nat} {cur : Array Value} {e : TypeId} {xs : List Value} {u : Value} (h : Row W g (.cells cur e)) (hx : cur.toList.take m = xs) (hk : xs[k]? = some u) : W.cell? ⟨g, k, none⟩ = some u := by
  have h1 : cur[k]? = some u := by
    rw [← hx, List.getElem?_take] at hk
    split at hk
    · simpa using hk
    · cases hk
  have h2 : W.heap[g]? = some (.cells cur e) := h.2
  simp [World.cell?, h2, h1]
theorem Row.cell_at {W : World} {b : Nat} {vs : Array Value} {t : TypeId} (h : Row W b (.cells vs t)) (i : Nat) {v : Value} (hv : vs[i]? = some v) : W.cell? ⟨b, i, none⟩ = some v := by
  have h2 : W.heap[b]? = some (.cells vs t) := h.2
  simp [World.cell?, h2, hv]
theorem Row.set2a {W : World} {b : Nat} {v0 v1 u0 : Value} {t : TypeId} (h : Row W b (.cells #[v0, v1] t)) : Row (W.setCell ⟨b, 0, none⟩ u0) b (.cells #[u0, v1] t) := h.set_same rfl
theorem Row.set2b {W : World} {b : Nat} {v0 v1 u1 : Value} {t : TypeId} (h : Row W b (.cells #[v0, v1] t)) : Row (W.setCell ⟨b, 1, none⟩ u1) b (.cells #[v0, u1] t) := h.set_same rfl
/-- A row, from world to world. -/
theorem RW {P : Prop} (h : P := by repeat (first | (with_reducible assumption) | (with_reducible exact row_new' (by first | omega | (simp; done) | (simp; omega))) | (with_reducible refine Row.drew ?_) | (with_reducible refine Row.drewN ?_ _) | (with_reducible refine Row.alloc ?_ _) | (with_reducible apply Row.set4) | (with_reducible apply Row.set4a) | (with_reducible apply Row.set4b) | (with_reducible apply Row.set2) | (with_reducible apply Row.set1) | (with_reducible apply Row.set2a) | (with_reducible apply Row.set2b) | (with_reducible refine Row.set_other ?_ _ (by first | omega | (simp; done) | (simp; omega))))) : P := h
/-- What lies below. -/
theorem BW {P : Prop} (h : P := by repeat (first | (with_reducible assumption) | (with_reducible exact Below.refl _ _) | (with_reducible refine Below.drew ?_) | (with_reducible refine below_drewN ?_ _) | (with_reducible refine Below.alloc ?_ (by first | omega | (simp; done) | (simp; omega)) _) | (with_reducible refine Below.setCell ?_ (by first | omega | (simp; done) | (simp; omega)) _))) : P := h
/-- An operation that reads no memory. -/
theorem qv0 {p : Prop} (h : p := by intro ρ X qX qc qg qf qt qd; simp [depsAre, Region.binds] at qd; simp [Region.wanted, yieldedBy, quietly, execOp, go_sem, foreign, qc, qd, qt, Below.refl]) : p := h
/-- The same, with a fact. -/
theorem qvf {p q : Prop} (y : q) (h : q → p := by intro y ρ X qX qc qg qf qt qd; simp [depsAre, Region.binds] at qd; simp [Region.wanted, yieldedBy, quietly, execOp, go_sem, foreign, qc, qd, qt, Below.refl, y]) : p := h y
/-- A load: what the block's cells hold. -/
theorem qv1 {p : Prop} {q : World → Prop} {w : World} (y : ∀ X, Below w.heap.size w X → q X)
    (h : (∀ X, Below w.heap.size w X → q X) → p := by intro y ρ X qX qc qg qf qt qd; simp [depsAre, Region.binds] at qd; have y' := y X qX; clear y; simp [Region.wanted, yieldedBy, quietly, execOp, go_sem, foreign, qc, qd, qt, Below.refl, y']) : p := h y
/-- A store of what the cells hold already. -/
theorem setCell_same2 {X : World} {b : Nat} {v0 v1 : Value} {t : TypeId} (h : Row X b (.cells #[v0, v1] t)) : X.setCell ⟨b, 0, none⟩ v0 = X ∧ X.setCell ⟨b, 1, none⟩ v1 = X := by
  have h2 : X.heap[b]? = some (.cells #[v0, v1] t) := h.2
  have e0 : (X.setCell ⟨b, 0, none⟩ v0).heap = X.heap := by
    apply Array.ext_getElem?
    intro k
    by_cases hk : k = b
    · subst hk; simp [World.setCell, Array.getElem?_modify, h2]
    · exact Below.heap_setCell _ _ _ _ hk
  have e1 : (X.setCell ⟨b, 1, none⟩ v1).heap = X.heap := by
    apply Array.ext_getElem?
    intro k
    by_cases hk : k = b
    · subst hk; simp [World.setCell, Array.getElem?_modify, h2]
    · exact Below.heap_setCell _ _ _ _ hk
  cases X
  simp only [World.setCell] at e0 e1 ⊢
  rw [e0, e1]
  exact ⟨rfl, rfl⟩
/-- A call. -/
theorem qv2 {p : Prop} {P : Program} {F : FuncId} {args : Array Value} {R : World → Ending → World → Prop} {w : World} (y : ∀ X, Below w.heap.size w X → Calls P F args X (R X))
    (h : (∀ X, Below w.heap.size w X → Calls P F args X (R X)) → p := by intro y ρ X qX qc qg qf qt qd; simp [depsAre, Region.binds] at qd; simp [Region.wanted, yieldedBy, quietly, execOp, go_sem, foreign, qc, qd, qt, qf]; refine ⟨Below.refl _ _, (y X qX).mono ?_⟩; rintro e Y ⟨rfl, h1⟩; exact ⟨_, rfl, rfl, h1⟩) : p := h y
end Go.Proofs.YtngohpgkceedeaaGreatDoor
namespace Go.Proofs.YtngohpgkceedeaaGreatDoor
open Go Go.RowKit Go.Lib Go.Shelf

def pC (p : Pt) : List Value := [.int .i64 (p.t : Int), .string (S p.iv.lo.num), .string (S (p.iv.lo.den : Int)), .string (S p.iv.hi.num), .string (S (p.iv.hi.den : Int))]
def pCells (l : List Pt) : List Value := l.flatMap pC
theorem own_at {w : World} {base base' : Nat} {e : TypeId} {size : Nat} {v : Value} {n : Nat} {xs : List Value} (h : w.ownsRow base e size v n xs) (hb : base' ≤ base) : w.ownsRow base' e size v n xs :=
  ⟨h.1, h.2.elim .inl fun ⟨g, cap, cur, e, hg, r⟩ => .inr ⟨g, cap, cur, e, Nat.le_trans hb hg, r⟩⟩
theorem own_keep {w : World} {base : Nat} {e : TypeId} {size : Nat} {v : Value} {n : Nat} {xs : List Value} (h : w.ownsRow base e size v n xs) {b : Nat} (hb : b < base) (i : Nat) (u : Value) : (w.setCell ⟨b, i, none⟩ u).ownsRow base e size v n xs :=
  ownsRow_setCell_other h (a := ⟨b, i, none⟩) (fun he => by have := h.lt b he; omega) u
theorem own_dr {w : World} {base : Nat} {e : TypeId} {size : Nat} {v : Value} {n : Nat} {xs : List Value} (h : w.ownsRow base e size v n xs) : w.drew.ownsRow base e size v n xs := h
theorem own_drN {w : World} {base : Nat} {e : TypeId} {size : Nat} {v : Value} {n : Nat} {xs : List Value} (h : w.ownsRow base e size v n xs) (k : Nat) : (w.drewN k).ownsRow base e size v n xs := h
/-- A row of its own, from world to world. -/
theorem OW {P : Prop} (h : P := by repeat (first | (with_reducible assumption) | (with_reducible refine own_dr ?_) | (with_reducible refine own_drN ?_ _) | (with_reducible refine World.ownsRow.alloc ?_ _) | (with_reducible refine own_keep ?_ (by first | omega | (simp; done) | (simp; omega)) _ _))) : P := h
theorem Row.set3 {W : World} {b : Nat} {v0 v1 v2 u0 u1 u2 : Value} {t : TypeId} (h : Row W b (.cells #[v0, v1, v2] t)) :
    Row (((W.setCell ⟨b, 0, none⟩ u0).setCell ⟨b, 1, none⟩ u1).setCell ⟨b, 2, none⟩ u2) b (.cells #[u0, u1, u2] t) := ((h.set_same rfl).set_same rfl).set_same rfl
theorem Row.set5 {W : World} {b : Nat} {v0 v1 v2 v3 v4 u0 u1 u2 u3 u4 : Value} {t : TypeId} (h : Row W b (.cells #[v0, v1, v2, v3, v4] t)) :
    Row (((((W.setCell ⟨b, 0, none⟩ u0).setCell ⟨b, 1, none⟩ u1).setCell ⟨b, 2, none⟩ u2).setCell ⟨b, 3, none⟩ u3).setCell ⟨b, 4, none⟩ u4) b (.cells #[u0, u1, u2, u3, u4] t) := ((((h.set_same rfl).set_same rfl).set_same rfl).set_same rfl).set_same rfl
/-- A row, from world to world; of three and of five cells too. -/
theorem RWh {P : Prop} (h : P := by repeat (first | (with_reducible assumption) | (with_reducible exact row_new' (by first | omega | (simp; done) | (simp; omega))) | (with_reducible refine Row.drew ?_) | (with_reducible refine Row.drewN ?_ _) | (with_reducible refine Row.alloc ?_ _) | (with_reducible apply Row.set5) | (with_reducible apply Row.set4) | (with_reducible apply Row.set3) | (with_reducible apply Row.set4a) | (with_reducible apply Row.set4b) | (with_reducible apply Row.set2) | (with_reducible apply Row.set1) | (with_reducible apply Row.set2a) | (with_reducible apply Row.set2b) | (with_reducible refine Row.set_other ?_ _ (by first | omega | (simp; done) | (simp; omega))))) : P := h
theorem pC_length (p : Pt) : (pC p).length = 5 := rfl
theorem pCells_nil : pCells [] = [] := rfl
theorem pCells_cons (p : Pt) (l : List Pt) : pCells (p :: l) = pC p ++ pCells l := rfl
theorem pCells_length (l : List Pt) : (pCells l).length = l.length * 5 := by
  induction l with
  | nil => rfl
  | cons p l ih => rw [pCells_cons, List.length_append, ih, pC_length, List.length_cons]; omega
theorem pCells_app (l m : List Pt) : pCells (l ++ m) = pCells l ++ pCells m := by unfold pCells; simp
theorem pCells_take : ∀ (l : List Pt) (k : Nat), pCells (l.take k) = (pCells l).take (k * 5)
  | [], k => by simp [pCells]
  | p :: l, 0 => by simp [pCells]
  | p :: l, k + 1 => by
    rw [List.take_succ_cons, pCells_cons, pCells_cons, pCells_take l k, show (k + 1) * 5 = (pC p).length + k * 5 by rw [pC_length]; omega, List.take_length_add_append]
theorem pCells_drop : ∀ (l : List Pt) (k : Nat), pCells (l.drop k) = (pCells l).drop (k * 5)
  | [], k => by simp [pCells]
  | p :: l, 0 => by simp [pCells]
  | p :: l, k + 1 => by
    rw [List.drop_succ_cons, pCells_cons, pCells_drop l k, show (k + 1) * 5 = (pC p).length + k * 5 by rw [pC_length]; omega, List.drop_length_add_append]
theorem pCells_get {l : List Pt} {i : Nat} (h : i < l.length) (j : Nat) (hj : j < 5) : (pCells l)[i * 5 + j]? = (pC (ptD l i))[j]? := by
  have e : l = l.take i ++ ptD l i :: l.drop (i + 1) := by
    have : ptD l i = l[i] := by unfold ptD; rw [List.getD_eq_getElem?_getD, List.getElem?_eq_getElem h]; rfl
    rw [this]
    exact (List.take_append_drop i l).symm.trans (by rw [List.drop_eq_getElem_cons h])
  have e2 : pCells l = pCells (l.take i) ++ (pC (ptD l i) ++ pCells (l.drop (i + 1))) := by
    rw [← pCells_cons, ← pCells_app, ← e]
  have hl : (pCells (l.take i)).length = i * 5 := by rw [pCells_length, List.length_take, Nat.min_eq_left (by omega)]
  rw [e2, List.getElem?_append_right (by omega), hl, Nat.add_sub_cancel_left, List.getElem?_append_left (by rw [pC_length]; exact hj)]
theorem pCells_one (l : List Pt) : ∀ v ∈ pCells l, v.oneCell' = true := by
  intro v hv
  obtain ⟨p, _, hp⟩ := List.mem_flatMap.1 hv
  simp only [pC, List.mem_cons, List.not_mem_nil, or_false] at hp
  rcases hp with rfl | rfl | rfl | rfl | rfl <;> rfl
/-- A slice value holds these points. -/
def PRow (W : World) (s : Value) (l : List Pt) : Prop := W.ownsRow 0 53 5 s l.length (pCells l)
/-- A history, as a value. -/
def HV (h : Hist) (s : Value) : Value := .agg #[.string (S h.rate.num), .string (S (h.rate.den : Int)), s]
theorem PRow.nil (W : World) : PRow W (.slice none 0 0) [] := ⟨rfl, .inl ⟨rfl, rfl⟩⟩
/-- What of a row the walks want. -/
def PAt (W : World) (p : Option Addr) (l : List Pt) : Prop := (l = [] ∧ (p = none ∨ ∃ g, p = some ⟨g, 0, none⟩)) ∨ ∃ g cur, p = some ⟨g, 0, none⟩ ∧ Row W g (.cells cur 53) ∧ cur.toList.take (l.length * 5) = pCells l
theorem PRow.open {W : World} {s : Value} {l : List Pt} (h : PRow W s l) : ∃ p c, s = .slice p l.length c ∧ l.length ≤ c ∧ c ≤ maxLen ∧ PAt W p l := by
  obtain ⟨_, ⟨rfl, hn⟩ | ⟨g, cap, cur, rfl, _, hg, hc, hm, _, hx⟩⟩ := h
  · exact ⟨none, 0, by rw [hn], by omega, by unfold maxLen; omega, .inl ⟨List.length_eq_zero_iff.1 hn, .inl rfl⟩⟩
  · exact ⟨some ⟨g, 0, none⟩, cap, rfl, hc, hm, .inr ⟨g, cur, rfl, ⟨(Array.getElem?_eq_some_iff.1 hg).1, hg⟩, hx⟩⟩
theorem PRow.below {W W' : World} {s : Value} {l : List Pt} (h : PRow W s l) (hB : Below W.heap.size W W') : PRow W' s l :=
  ⟨h.1, h.2.elim .inl fun ⟨g, cap, cur, e, h0, hg, r⟩ => .inr ⟨g, cap, cur, e, h0, (hB.block g (Array.getElem?_eq_some_iff.1 hg).1).trans hg, r⟩⟩
theorem PAt.below {W W' : World} {p : Option Addr} {l : List Pt} (h : PAt W p l) (hB : Below W.heap.size W W') : PAt W' p l :=
  h.elim .inl fun ⟨g, cur, e, hr, hx⟩ => .inr ⟨g, cur, e, Row.below hr hB, hx⟩
theorem own_row {W : World} {n : Nat} {s : Value} {l : List Pt} (h : W.ownsRow n 53 5 s l.length (pCells l)) : PRow W s l := own_at h (Nat.zero_le _)
/-- One point's cells. -/
theorem PAt.cells {W : World} {p : Option Addr} {l : List Pt} (h : PAt W p l) {i : Nat} (hi : i < l.length) : ∃ g, p = some ⟨g, 0, none⟩ ∧ g < W.heap.size
    ∧ W.cell? ⟨g, i * 5, none⟩ = some (.int .i64 ((ptD l i).t : Int)) ∧ W.cell? ⟨g, i * 5 + 1, none⟩ = some (.string (S (ptD l i).iv.lo.num)) ∧ W.cell? ⟨g, i * 5 + 2, none⟩ = some (.string (S ((ptD l i).iv.lo.den : Int)))
    ∧ W.cell? ⟨g, i * 5 + 3, none⟩ = some (.string (S (ptD l i).iv.hi.num)) ∧ W.cell? ⟨g, i * 5 + 4, none⟩ = some (.string (S ((ptD l i).iv.hi.den : Int))) := by
  rcases h with ⟨rfl, _⟩ | ⟨g, cur, rfl, hr, hx⟩
  · simp at hi
  · have key : ∀ j, j < 5 → cur[i * 5 + j]? = (pC (ptD l i))[j]? := fun j hj => by
      rw [← pCells_get hi j hj, ← hx, List.getElem?_take, if_pos (by omega), Array.getElem?_toList]
    refine ⟨g, rfl, hr.1, ?_, ?_, ?_, ?_, ?_⟩
    · exact Row.cell_lit hr _ (key 0 (by omega))
    · exact Row.cell_lit hr _ (key 1 (by omega))
    · exact Row.cell_lit hr _ (key 2 (by omega))
    · exact Row.cell_lit hr _ (key 3 (by omega))
    · exact Row.cell_lit hr _ (key 4 (by omega))
end Go.Proofs.YtngohpgkceedeaaGreatDoor
namespace Go.Proofs.YtngohpgkceedeaaGreatDoor
open Go Go.RowKit Go.Lib Go.Shelf

theorem fromInt_any (n : Int) (h0 : -9223372036854775808 ≤ n) (h1 : n ≤ 9223372036854775807) (w : World) (ht : Tab w) :
    Calls Tryz.prog 152 #[.int .i64 n] w fun e w' => e = .returned (.string ⟨(itoa n).toArray⟩) ∧ Below w.heap.size w w' := by
  go_enter Tryz.func152, Tryz.ntmps152
  go_wp2_with (go_at_call 177; go_must (refine (Tryz.strconv_Itoa n h0 h1 _ ht).mono ?_; rintro e w1 ⟨rfl, k, os, rfl⟩))
  go_ret
  exact ⟨rfl, below_grown_sl _ _ _ _ (Nat.le_refl _)⟩
end Go.Proofs.YtngohpgkceedeaaGreatDoor
