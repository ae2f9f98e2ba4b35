/-
  More of what the laws need.
-/
import Derived.Test.YtnfkibgoockmpaaGreatDoorSane
import Derived.Test.YtnfkibgoockmpaaGreatDoorRefT
namespace Go.Proofs.YtnfkibgoockmpaaGreatDoor
open Go Go.RowKit Go.Lib Go.Shelf

theorem S_eq0 {x : Int} (h : x = 0) : ((S x).toList == [48]) = true := by
  subst h
  rw [S_list, ← is_zero]
  rfl
theorem gcd_dig {k : Nat} {x y : Int} (hx : Dig k x) (hy : Dig k y) : Dig k ((x.natAbs.gcd y.natAbs : Nat) : Int) := by
  unfold Dig at *
  rw [Int.natAbs_natCast]
  rcases Nat.eq_zero_or_pos x.natAbs with h | h
  · rw [h, Nat.gcd_zero_left]; exact hy
  · exact Nat.lt_of_le_of_lt (Nat.gcd_le_left _ h) hx
def FromOk (z : Int) (w : World) (e : Ending) (w' : World) : Prop := e = .returned (.string (S z)) ∧ Below w.heap.size w w'
theorem fromIntS {n : Int} (h : Hid (IsInt n)) (w : World) (he : Env w) : Calls Tryz.prog 35 #[.int .i64 n] w (FromOk n w) :=
  fromInt_any n h.out.1 h.out.2 w he.tab
end Go.Proofs.YtnfkibgoockmpaaGreatDoor
