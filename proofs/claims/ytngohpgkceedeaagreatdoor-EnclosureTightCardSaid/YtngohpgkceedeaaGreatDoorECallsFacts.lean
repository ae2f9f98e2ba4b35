/-
  The two slices of the laws' calls, opened: their blocks and what the cells hold.
-/
import Derived.Test.YtngohpgkceedeaaGreatDoorECallsDef
import Derived.Test.YtngohpgkceedeaaGreatDoorShort
namespace Go.Proofs.YtngohpgkceedeaaGreatDoor
open Go Go.RowKit Go.Lib Go.Shelf

/-- A row of the call's own, its first cells known. -/
theorem own_open {w : World} {base n : Nat} {e : TypeId} {size : Nat} {v : Value} {xs : List Value} (hn : 0 < n) (h : w.ownsRow base e size v n xs) :
    ∃ g cap cur, v = .slice (some ⟨g, 0, none⟩) n cap ∧ base ≤ g ∧ Row w g (.cells cur e) ∧ cur.toList.take (n * size) = xs := by
  rcases h.2 with ⟨_, rfl⟩ | ⟨g, cap, cur, rfl, hb, hg, _, _, _, hx⟩
  · omega
  · exact ⟨g, cap, cur, rfl, hb, ⟨(Array.getElem?_eq_some_iff.1 hg).1, hg⟩, hx⟩
theorem eight {α : Type} {l : List α} (h : l.length = 8) : ∃ a b c d e f g i, l = [a, b, c, d, e, f, g, i] := by
  match l, h with
  | [a, b, c, d, e, f, g, i], _ => exact ⟨a, b, c, d, e, f, g, i, rfl⟩
/-- What the calls hand back: the eight results and the blocks in which they lie. -/
theorem callsOk.open {a b : Iv} {T : Int} {w w' : World} {e : Ending} (h : callsOk a b T w e w') :
    ∃ (f : Nat → Option Iv) (g gc : Nat) (gs : Array Value) (h hc : Nat) (hs : Array Value), (∀ k, k < 8 → OpRes k a b T (f k)) ∧ e = .returned (.tuple #[.slice (some ⟨g, 0, none⟩) 8 gc, .slice (some ⟨h, 0, none⟩) 8 hc])
      ∧ w.heap.size ≤ g ∧ w.heap.size ≤ h ∧ Row w' g (.cells gs 29) ∧ Row w' h (.cells hs 31)
      ∧ gs.toList.take 32 = oCells [f 0, f 1, f 2, f 3, f 4, f 5, f 6, f 7] ∧ hs.toList.take 8 = oErrs [f 0, f 1, f 2, f 3, f 4, f 5, f 6, f 7] ∧ Below w.heap.size w w' := by
  obtain ⟨os, v, u, hl, ho, rfl, h1, h2, hB⟩ := h
  obtain ⟨o0, o1, o2, o3, o4, o5, o6, o7, rfl⟩ := eight hl
  obtain ⟨g, gc, gs, rfl, hg, rg, xg⟩ := own_open (by omega) h1
  obtain ⟨h, hc, hs, rfl, hh, rh, xh⟩ := own_open (by omega) h2
  refine ⟨fun k => ([o0, o1, o2, o3, o4, o5, o6, o7][k]?).getD none, g, gc, gs, h, hc, hs, ?_, rfl, hg, hh, rg, rh, xg, xh, hB⟩
  intro k hk
  rcases hq : [o0, o1, o2, o3, o4, o5, o6, o7][k]? with _ | o
  · simp at hq; omega
  · have := ho k o hq
    simpa [hq] using this
theorem oCells8 (f : Nat → Option Iv) (i : Nat) (h : i < 8) : (oCells [f 0, f 1, f 2, f 3, f 4, f 5, f 6, f 7])[i * 4]? = some (.string (oS1 (f i))) ∧ (oCells [f 0, f 1, f 2, f 3, f 4, f 5, f 6, f 7])[i * 4 + 1]? = some (.string (oS2 (f i)))
    ∧ (oCells [f 0, f 1, f 2, f 3, f 4, f 5, f 6, f 7])[i * 4 + 2]? = some (.string (oS3 (f i))) ∧ (oCells [f 0, f 1, f 2, f 3, f 4, f 5, f 6, f 7])[i * 4 + 3]? = some (.string (oS4 (f i)))
    ∧ (oErrs [f 0, f 1, f 2, f 3, f 4, f 5, f 6, f 7])[i]? = some (.int .i64 (oE (f i))) := by
  obtain rfl | rfl | rfl | rfl | rfl | rfl | rfl | rfl : i = 0 ∨ i = 1 ∨ i = 2 ∨ i = 3 ∨ i = 4 ∨ i = 5 ∨ i = 6 ∨ i = 7 := by omega
  all_goals exact ⟨rfl, rfl, rfl, rfl, rfl⟩
end Go.Proofs.YtngohpgkceedeaaGreatDoor
