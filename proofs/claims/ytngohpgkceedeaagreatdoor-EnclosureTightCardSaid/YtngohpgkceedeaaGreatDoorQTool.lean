/-
  Words for walks whose variables are blocks of cells: what a block holds, from world to world.
-/
import Derived.Test.YtngohpgkceedeaaGreatDoorQSum
namespace Go.Proofs.YtngohpgkceedeaaGreatDoor
open Go Go.RowKit Go.Lib Go.Shelf

/-- A call at a world of which only some facts are kept. -/
theorem world_cut {P : Program} {F : FuncId} {args : Array Value} {w : World} {R : Ending → World → Prop} (p : World → Prop) (h0 : p w) (h : ∀ W, p W → Calls P F args W R) : Calls P F args w R := h w h0
theorem row_new' {w : World} {b : Nat} {o : Obj} (h : b = w.heap.size) : Row (w.alloc o) b o := h ▸ row_new w o
theorem Row.drew {W : World} {b : Nat} {o : Obj} (h : Row W b o) : Row W.drew b o := h
theorem Row.drewN {W : World} {b : Nat} {o : Obj} (h : Row W b o) (k : Nat) : Row (W.drewN k) b o := h
theorem Row.set_other {W : World} {b c i : Nat} {o : Obj} (h : Row W b o) (v : Value) (hne : b ≠ c) : Row (W.setCell ⟨c, i, none⟩ v) b o :=
  ⟨by simpa using h.1, by rw [Below.heap_setCell _ _ _ _ hne]; exact h.2⟩
theorem Row.set_same {W : World} {b i : Nat} {vs vs' : Array Value} {v : Value} {t : TypeId} (h : Row W b (.cells vs t)) (e : vs.setIfInBounds i v = vs') : Row (W.setCell ⟨b, i, none⟩ v) b (.cells vs' t) :=
  ⟨by simpa using h.1, by simp [World.setCell, Array.getElem?_modify, h.2, e]⟩
theorem Row.set2 {W : World} {b : Nat} {v0 v1 u0 u1 : Value} {t : TypeId} (h : Row W b (.cells #[v0, v1] t)) : Row ((W.setCell ⟨b, 0, none⟩ u0).setCell ⟨b, 1, none⟩ u1) b (.cells #[u0, u1] t) := (h.set_same rfl).set_same rfl
theorem Row.set4 {W : World} {b : Nat} {v0 v1 v2 v3 u0 u1 u2 u3 : Value} {t : TypeId} (h : Row W b (.cells #[v0, v1, v2, v3] t)) :
    Row ((((W.setCell ⟨b, 0, none⟩ u0).setCell ⟨b, 1, none⟩ u1).setCell ⟨b, 2, none⟩ u2).setCell ⟨b, 3, none⟩ u3) b (.cells #[u0, u1, u2, u3] t) := (((h.set_same rfl).set_same rfl).set_same rfl).set_same rfl
theorem Row.set1 {W : World} {b : Nat} {v0 u0 : Value} {t : TypeId} (h : Row W b (.cells #[v0] t)) : Row (W.setCell ⟨b, 0, none⟩ u0) b (.cells #[u0] t) := h.set_same rfl
theorem Row.set4a {W : World} {b : Nat} {v0 v1 v2 v3 u0 u1 : Value} {t : TypeId} (h : Row W b (.cells #[v0, v1, v2, v3] t)) : Row ((W.setCell ⟨b, 0, none⟩ u0).setCell ⟨b, 1, none⟩ u1) b (.cells #[u0, u1, v2, v3] t) := (h.set_same rfl).set_same rfl
theorem Row.set4b {W : World} {b : Nat} {v0 v1 v2 v3 u2 u3 : Value} {t : TypeId} (h : Row W b (.cells #[v0, v1, v2, v3] t)) : Row ((W.setCell ⟨b, 2, none⟩ u2).setCell ⟨b, 3, none⟩ u3) b (.cells #[v0, v1, u2, u3] t) := (h.set_same rfl).set_same rfl
theorem post_cut {P : Program} {fn : Func} {R : Ending → World → Prop} {ex : Exit} {a : Act} {w : World} (p : World → Prop) (h0 : p w) (h : ∀ W, p W → bodyPost P fn R ex a W) : bodyPost P fn R ex a w := h w h0
theorem wp_cut {P : Program} {c : Code} {Q : Exit → Act → World → Prop} {a : Act} {w : World} (p : World → Prop) (h0 : p w) (h : ∀ W, p W → c.wp P Q a W) : c.wp P Q a w := h w h0
theorem Row.cells1 {W : World} {b : Nat} {v0 : Value} {t : TypeId} (h : Row W b (.cells #[v0] t)) : b < W.heap.size ∧ W.cell? ⟨b, 0, none⟩ = some v0 ∧ W.frozen? ⟨b, 0, none⟩ = false := ⟨h.1, one_facts h.2⟩
theorem Row.cells2 {W : World} {b : Nat} {v0 v1 : Value} {t : TypeId} (h : Row W b (.cells #[v0, v1] t)) :
    b < W.heap.size ∧ W.cell? ⟨b, 0, none⟩ = some v0 ∧ W.cell? ⟨b, 1, none⟩ = some v1 ∧ W.frozen? ⟨b, 0, none⟩ = false ∧ W.frozen? ⟨b, 1, none⟩ = false := ⟨h.1, two_facts h.2⟩
theorem Row.cells4 {W : World} {b : Nat} {v0 v1 v2 v3 : Value} {t : TypeId} (h : Row W b (.cells #[v0, v1, v2, v3] t)) :
    b < W.heap.size ∧ W.cell? ⟨b, 0, none⟩ = some v0 ∧ W.cell? ⟨b, 1, none⟩ = some v1 ∧ W.cell? ⟨b, 2, none⟩ = some v2 ∧ W.cell? ⟨b, 3, none⟩ = some v3
      ∧ W.frozen? ⟨b, 0, none⟩ = false ∧ W.frozen? ⟨b, 1, none⟩ = false ∧ W.frozen? ⟨b, 2, none⟩ = false ∧ W.frozen? ⟨b, 3, none⟩ = false :=
  ⟨h.1, cell_of_row _ _ 0 _ _ _ h.2, cell_of_row _ _ 1 _ _ _ h.2, cell_of_row _ _ 2 _ _ _ h.2, cell_of_row _ _ 3 _ _ _ h.2, frozen_of_row _ _ 0 _ _ h.2, frozen_of_row _ _ 1 _ _ h.2, frozen_of_row _ _ 2 _ _ h.2, frozen_of_row _ _ 3 _ _ h.2⟩
theorem Row.cells8 {W : World} {b : Nat} {v0 v1 v2 v3 v4 v5 v6 v7 : Value} {t : TypeId} (h : Row W b (.cells #[v0, v1, v2, v3, v4, v5, v6, v7] t)) :
    b < W.heap.size ∧ W.cell? ⟨b, 0, none⟩ = some v0 ∧ W.cell? ⟨b, 1, none⟩ = some v1 ∧ W.cell? ⟨b, 2, none⟩ = some v2 ∧ W.cell? ⟨b, 3, none⟩ = some v3
      ∧ W.cell? ⟨b, 4, none⟩ = some v4 ∧ W.cell? ⟨b, 5, none⟩ = some v5 ∧ W.cell? ⟨b, 6, none⟩ = some v6 ∧ W.cell? ⟨b, 7, none⟩ = some v7 :=
  ⟨h.1, cell_of_row _ _ 0 _ _ _ h.2, cell_of_row _ _ 1 _ _ _ h.2, cell_of_row _ _ 2 _ _ _ h.2, cell_of_row _ _ 3 _ _ _ h.2, cell_of_row _ _ 4 _ _ _ h.2, cell_of_row _ _ 5 _ _ _ h.2, cell_of_row _ _ 6 _ _ _ h.2, cell_of_row _ _ 7 _ _ _ h.2⟩
end Go.Proofs.YtngohpgkceedeaaGreatDoor
