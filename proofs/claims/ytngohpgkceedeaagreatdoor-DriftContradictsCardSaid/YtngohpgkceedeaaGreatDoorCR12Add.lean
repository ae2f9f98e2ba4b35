/-
  The reference of drift: a valid history, with a further valid point.
-/
import Derived.Test.YtngohpgkceedeaaGreatDoorCDAdd
import Derived.Test.YtngohpgkceedeaaGreatDoorCDKnown
import Derived.Test.YtngohpgkceedeaaGreatDoorCQCmp
import Derived.Test.YtngohpgkceedeaaGreatDoorCQPlain6
import Derived.Test.YtngohpgkceedeaaGreatDoorCQPlain7
import Derived.Test.YtngohpgkceedeaaGreatDoorCRefFrom
import Derived.Test.YtngohpgkceedeaaGreatDoorCTail3
set_option linter.unusedSimpArgs false
set_option linter.unusedVariables false
namespace Go.Proofs.YtngohpgkceedeaaGreatDoor
open Go Go.RowKit Go.Lib Go.Shelf

theorem own_patR {W : World} {n k c : Nat} {p : Option Addr} {l : List Pt} (h : W.ownsRow n 53 5 (.slice p k c) k (pCells l)) (hl : l.length = k) : PAt W p l := by
  subst hl
  obtain ⟨p3, c3, e3, _, _, h3⟩ := PRow.open (own_row h)
  injection e3 with e5
  subst e5
  exact h3
end Go.Proofs.YtngohpgkceedeaaGreatDoor
