/-
  Chains of tactics behind the names of theorems whose last argument is automatic: the chain runs where the name stands. Rows, what lies below, and the obligations of a region whose values are known.
-/
import Derived.Test.YtngohpgkceedeaaGreatDoorQuiet
import Derived.Test.YtngohpgkceedeaaGreatDoorUnroll
set_option linter.unusedSimpArgs false
set_option linter.unusedVariables false
namespace Go.Proofs.YtngohpgkceedeaaGreatDoor
open Go Go.RowKit Go.Lib Go.Shelf

theorem Row.cell_lit {W : World} {b : Nat} {vs : Array Value} {t : TypeId} (h : Row W b (.cells vs t)) (i : Nat) {v : Value} (hv : vs[i]? = some v) : W.cell? ⟨b, i, none⟩ = some v := by
  have h2 : W.heap[b]? = some (.cells vs t) := h.2
  simp [World.cell?, h2, hv]
theorem Row.set2a {W : World} {b : Nat} {v0 v1 u0 : Value} {t : TypeId} (h : Row W b (.cells #[v0, v1] t)) : Row (W.setCell ⟨b, 0, none⟩ u0) b (.cells #[u0, v1] t) := h.set_same rfl
theorem Row.set2b {W : World} {b : Nat} {v0 v1 u1 : Value} {t : TypeId} (h : Row W b (.cells #[v0, v1] t)) : Row (W.setCell ⟨b, 1, none⟩ u1) b (.cells #[v0, u1] t) := h.set_same rfl
/-- A row, from world to world. -/
theorem RW {P : Prop} (h : P := by repeat (first | (with_reducible assumption) | (with_reducible exact row_new' (by first | omega | (simp; done) | (simp; omega))) | (with_reducible refine Row.drew ?_) | (with_reducible refine Row.drewN ?_ _) | (with_reducible refine Row.alloc ?_ _) | (with_reducible apply Row.set4) | (with_reducible apply Row.set4a) | (with_reducible apply Row.set4b) | (with_reducible apply Row.set2) | (with_reducible apply Row.set1) | (with_reducible apply Row.set2a) | (with_reducible apply Row.set2b) | (with_reducible refine Row.set_other ?_ _ (by first | omega | (simp; done) | (simp; omega))))) : P := h
/-- What lies below. -/
theorem BW {P : Prop} (h : P := by repeat (first | (with_reducible assumption) | (with_reducible exact Below.refl _ _) | (with_reducible refine Below.drew ?_) | (with_reducible refine below_drewN ?_ _) | (with_reducible refine Below.alloc ?_ (by first | omega | (simp; done) | (simp; omega)) _) | (with_reducible refine Below.setCell ?_ (by first | omega | (simp; done) | (simp; omega)) _))) : P := h
/-- An operation that reads no memory. -/
theorem qv0 {p : Prop} (h : p := by intro ρ X qX qc qg qf qt qd; simp [depsAre] at qd; simp [Region.wanted, yieldedBy, quietly, execOp, go_sem, foreign, qc, qd, qt, Below.refl]) : p := h
/-- The same, with a fact. -/
theorem qvf {p q : Prop} (y : q) (h : q → p := by intro y ρ X qX qc qg qf qt qd; simp [depsAre] at qd; simp [Region.wanted, yieldedBy, quietly, execOp, go_sem, foreign, qc, qd, qt, Below.refl, y]) : p := h y
/-- The same, with one of two facts. -/
theorem qvs {p A B : Prop} (y : ¬ (A ∧ B)) (h : ¬ A → p := by intro y ρ X qX qc qg qf qt qd; simp [depsAre] at qd; simp [Region.wanted, yieldedBy, quietly, execOp, go_sem, foreign, qc, qd, qt, Below.refl, y])
    (h' : ¬ B → p := by intro y ρ X qX qc qg qf qt qd; simp [depsAre] at qd; simp [Region.wanted, yieldedBy, quietly, execOp, go_sem, foreign, qc, qd, qt, Below.refl, y]) : p :=
  (Classical.em A).elim (fun a => h' fun b => y ⟨a, b⟩) h
/-- A load: what the block's cells hold. -/
theorem qv1 {p : Prop} {q : World → Prop} {w : World} (y : ∀ X, Below w.heap.size w X → q X)
    (h : (∀ X, Below w.heap.size w X → q X) → p := by intro y ρ X qX qc qg qf qt qd; simp [depsAre] at qd; have y' := y X qX; clear y; simp [Region.wanted, yieldedBy, quietly, execOp, go_sem, foreign, qc, qd, qt, Below.refl, y']) : p := h y
/-- A call. -/
theorem qv2 {p : Prop} {P : Program} {F : FuncId} {args : Array Value} {R : World → Ending → World → Prop} {w : World} (y : ∀ X, Below w.heap.size w X → Calls P F args X (R X))
    (h : (∀ X, Below w.heap.size w X → Calls P F args X (R X)) → p := by intro y ρ X qX qc qg qf qt qd; simp [depsAre] at qd; simp [Region.wanted, yieldedBy, quietly, execOp, go_sem, foreign, qc, qd, qt, qf]; refine ⟨Below.refl _ _, (y X qX).mono ?_⟩; rintro e Y ⟨rfl, h1⟩; exact ⟨_, rfl, rfl, h1⟩) : p := h y
end Go.Proofs.YtngohpgkceedeaaGreatDoor
