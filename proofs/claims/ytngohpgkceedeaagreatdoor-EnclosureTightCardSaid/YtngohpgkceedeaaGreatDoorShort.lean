/-
  Chains of tactics behind the names of theorems whose last argument is automatic: the chain runs where the name stands. Rows, what lies below, and the obligations of a region whose values are known.
-/
import Derived.Test.YtngohpgkceedeaaGreatDoorQuiet
import Derived.Test.YtngohpgkceedeaaGreatDoorUnroll
set_option linter.unusedSimpArgs false
set_option linter.unusedVariables false
namespace Go.Proofs.YtngohpgkceedeaaGreatDoor
open Go Go.RowKit Go.Lib Go.Shelf

theorem Row.cell_lit {W : World} {b : Nat} {vs : Array Value} {t : TypeId} (h : Row W b (.cells vs t)) (i : Nat) {v : Value} (hv : vs[i]? = some v) : W.cell? ⟨b, i, none⟩ = some v := by
  have h2 : W.heap[b]? = some (.cells vs t) := h.2
  simp [World.cell?, h2, hv]
theorem Row.cell_take {W : World} {g m k : Nat} {cur : Array Value} {e : TypeId} {xs : List Value} {u : Value} (h : Row W g (.cells cur e)) (hx : cur.toList.take m = xs) (hk : xs[k]? = some u) : W.cell? ⟨g, k, none⟩ = some u := by
  have h1 : cur[k]? = some u := by
    rw [← hx, List.getElem?_take] at hk
    split at hk
    · simpa using hk
    · cases hk
  have h2 : W.heap[g]? = some (.cells cur e) := h.2
  simp [World.cell?, h2, h1]
theorem Row.cell_at {W : World} {b : Nat} {vs : Array Value} {t : TypeId} (h : Row W b (.cells vs t)) (i : Nat) {v : Value} (hv : vs[i]? = some v) : W.cell? ⟨b, i, none⟩ = some v := by
  have h2 : W.heap[b]? = some (.cells vs t) := h.2
  simp [World.cell?, h2, hv]
theorem Row.set2a {W : World} {b : Nat} {v0 v1 u0 : Value} {t : TypeId} (h : Row W b (.cells #[v0, v1] t)) : Row (W.setCell ⟨b, 0, none⟩ u0) b (.cells #[u0, v1] t) := h.set_same rfl
theorem Row.set2b {W : World} {b : Nat} {v0 v1 u1 : Value} {t : TypeId} (h : Row W b (.cells #[v0, v1] t)) : Row (W.setCell ⟨b, 1, none⟩ u1) b (.cells #[v0, u1] t) := h.set_same rfl
/-- A row, from world to world. -/
theorem RW {P : Prop} (h : P := by repeat (first | (with_reducible assumption) | (with_reducible exact row_new' (by first | omega | (simp; done) | (simp; omega))) | (with_reducible refine Row.drew ?_) | (with_reducible refine Row.drewN ?_ _) | (with_reducible refine Row.alloc ?_ _) | (with_reducible apply Row.set4) | (with_reducible apply Row.set4a) | (with_reducible apply Row.set4b) | (with_reducible apply Row.set2) | (with_reducible apply Row.set1) | (with_reducible apply Row.set2a) | (with_reducible apply Row.set2b) | (with_reducible refine Row.set_other ?_ _ (by first | omega | (simp; done) | (simp; omega))))) : P := h
/-- What lies below. -/
theorem BW {P : Prop} (h : P := by repeat (first | (with_reducible assumption) | (with_reducible exact Below.refl _ _) | (with_reducible refine Below.drew ?_) | (with_reducible refine below_drewN ?_ _) | (with_reducible refine Below.alloc ?_ (by first | omega | (simp; done) | (simp; omega)) _) | (with_reducible refine Below.setCell ?_ (by first | omega | (simp; done) | (simp; omega)) _))) : P := h
/-- An operation that reads no memory. -/
theorem qv0 {p : Prop} (h : p := by intro ρ X qX qc qg qf qt qd; simp [depsAre, Region.binds] at qd; simp [Region.wanted, yieldedBy, quietly, execOp, go_sem, foreign, qc, qd, qt, Below.refl]) : p := h
/-- The same, with a fact. -/
theorem qvf {p q : Prop} (y : q) (h : q → p := by intro y ρ X qX qc qg qf qt qd; simp [depsAre, Region.binds] at qd; simp [Region.wanted, yieldedBy, quietly, execOp, go_sem, foreign, qc, qd, qt, Below.refl, y]) : p := h y
/-- The same, with one of two facts. -/
theorem qvs {p A B : Prop} (y : ¬ (A ∧ B)) (h : ¬ A → p := by intro y ρ X qX qc qg qf qt qd; simp [depsAre, Region.binds] at qd; simp [Region.wanted, yieldedBy, quietly, execOp, go_sem, foreign, qc, qd, qt, Below.refl, y])
    (h' : ¬ B → p := by intro y ρ X qX qc qg qf qt qd; simp [depsAre, Region.binds] at qd; simp [Region.wanted, yieldedBy, quietly, execOp, go_sem, foreign, qc, qd, qt, Below.refl, y]) : p :=
  (Classical.em A).elim (fun a => h' fun b => y ⟨a, b⟩) h
/-- A load: what the block's cells hold. -/
theorem qv1 {p : Prop} {q : World → Prop} {w : World} (y : ∀ X, Below w.heap.size w X → q X)
    (h : (∀ X, Below w.heap.size w X → q X) → p := by intro y ρ X qX qc qg qf qt qd; simp [depsAre, Region.binds] at qd; have y' := y X qX; clear y; simp [Region.wanted, yieldedBy, quietly, execOp, go_sem, foreign, qc, qd, qt, Below.refl, y']) : p := h y
/-- A store of what the cells hold already. -/
theorem setCell_same2 {X : World} {b : Nat} {v0 v1 : Value} {t : TypeId} (h : Row X b (.cells #[v0, v1] t)) : X.setCell ⟨b, 0, none⟩ v0 = X ∧ X.setCell ⟨b, 1, none⟩ v1 = X := by
  have h2 : X.heap[b]? = some (.cells #[v0, v1] t) := h.2
  have e0 : (X.setCell ⟨b, 0, none⟩ v0).heap = X.heap := by
    apply Array.ext_getElem?
    intro k
    by_cases hk : k = b
    · subst hk; simp [World.setCell, Array.getElem?_modify, h2]
    · exact Below.heap_setCell _ _ _ _ hk
  have e1 : (X.setCell ⟨b, 1, none⟩ v1).heap = X.heap := by
    apply Array.ext_getElem?
    intro k
    by_cases hk : k = b
    · subst hk; simp [World.setCell, Array.getElem?_modify, h2]
    · exact Below.heap_setCell _ _ _ _ hk
  cases X
  simp only [World.setCell] at e0 e1 ⊢
  rw [e0, e1]
  exact ⟨rfl, rfl⟩
/-- A call. -/
theorem qv2 {p : Prop} {P : Program} {F : FuncId} {args : Array Value} {R : World → Ending → World → Prop} {w : World} (y : ∀ X, Below w.heap.size w X → Calls P F args X (R X))
    (h : (∀ X, Below w.heap.size w X → Calls P F args X (R X)) → p := by intro y ρ X qX qc qg qf qt qd; simp [depsAre, Region.binds] at qd; simp [Region.wanted, yieldedBy, quietly, execOp, go_sem, foreign, qc, qd, qt, qf]; refine ⟨Below.refl _ _, (y X qX).mono ?_⟩; rintro e Y ⟨rfl, h1⟩; exact ⟨_, rfl, rfl, h1⟩) : p := h y
end Go.Proofs.YtngohpgkceedeaaGreatDoor
