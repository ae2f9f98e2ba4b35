/-
  DriftTrue, plain: a true value that changes by parts of the rate, and calibrations with errors.
-/
import Derived.Test.YtngohpgkceedeaaGreatDoorZR12Made
set_option linter.unusedSimpArgs false
set_option linter.unusedVariables false
namespace Go.Proofs.YtngohpgkceedeaaGreatDoor
open Go Go.RowKit Go.Lib

/-- Fractions in memory. -/
def rCells (V : Nat → Rat) : Nat → List Value
  | 0 => []
  | n + 1 => rCells V n ++ [.string (S (V n).num), .string (S ((V n).den : Int))]
theorem rCells_length (V : Nat → Rat) : ∀ n, (rCells V n).length = n * 2
  | 0 => rfl
  | n + 1 => by unfold rCells; rw [List.length_append, rCells_length V n]; simp; omega
theorem rCells_get (V : Nat → Rat) : ∀ n i, i < n → (rCells V n)[i * 2]? = some (.string (S (V i).num)) ∧ (rCells V n)[i * 2 + 1]? = some (.string (S ((V i).den : Int)))
  | 0, i, h => by omega
  | n + 1, i, h => by
    unfold rCells
    have hl := rCells_length V n
    rcases Nat.lt_or_ge i n with hi | hi
    · obtain ⟨h1, h2⟩ := rCells_get V n i hi
      exact ⟨by rw [List.getElem?_append_left (by omega)]; exact h1, by rw [List.getElem?_append_left (by omega)]; exact h2⟩
    · obtain rfl : i = n := by omega
      exact ⟨by rw [List.getElem?_append_right (by omega), hl]; simp, by rw [List.getElem?_append_right (by omega), hl]; simp⟩
theorem own_split {W : World} {base k n : Nat} {T : TypeId} {v : Value} {xs : List Value} (hn : 0 < n) (h : W.ownsRow base T k v n xs) :
    ∃ g cap cur, v = .slice (some ⟨g, 0, none⟩) n cap ∧ base ≤ g ∧ Row W g (.cells cur T) ∧ cur.toList.take (n * k) = xs ∧ ∀ W', Row W' g (.cells cur T) → W'.ownsRow base T k (.slice (some ⟨g, 0, none⟩) n cap) n xs := by
  obtain ⟨hl, h⟩ := h
  rcases h with ⟨_, rfl⟩ | ⟨g, cap, cur, rfl, hb, hg, h1, h2, h3, hx⟩
  · omega
  · exact ⟨g, cap, cur, rfl, hb, ⟨(Array.getElem?_eq_some_iff.1 hg).1, hg⟩, hx, fun W' hr => ⟨hl, .inr ⟨g, cap, cur, rfl, hb, hr.2, h1, h2, h3, hx⟩⟩⟩
theorem own_vals {W : World} {g n : Nat} {cur : Array Value} {V : Nat → Rat} {T : TypeId} (r : Row W g (.cells cur T)) (hx : cur.toList.take (n * 2) = rCells V n) {i : Nat} (hi : i < n) :
    cur[i * 2]? = some (.string (S (V i).num)) ∧ cur[i * 2 + 1]? = some (.string (S ((V i).den : Int))) := by
  obtain ⟨h1, h2⟩ := rCells_get V n i hi
  rw [← hx] at h1 h2
  rw [List.getElem?_take, if_pos (by omega), Array.getElem?_toList] at h1 h2
  exact ⟨h1, h2⟩
theorem reads_two (X : World) (a b : Value) (T : TypeId) : Reads (X.alloc (.cells #[a, b] T)) (X.heap.size + 1) 2 (some ⟨X.heap.size, 0, none⟩) 1 [a, b] :=
  ⟨rfl, fun _ => ⟨_, rfl, Nat.lt_succ_self _, fun j u hu => by rw [Addr.add_lit, Nat.zero_add]; exact Row.cell_at (row_new X _) j (by simpa using hu)⟩⟩
theorem ratioInfo : (Tryz.prog.info? 26).map (fun i => (i.zero, i.size, i.bytes)) = some (some (.agg #[.string ⟨#[]⟩, .string ⟨#[]⟩]), 2, 32) := by kernel_rfl
end Go.Proofs.YtngohpgkceedeaaGreatDoor
