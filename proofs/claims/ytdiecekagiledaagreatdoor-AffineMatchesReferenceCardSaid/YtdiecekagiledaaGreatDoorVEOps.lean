/- Package enclosure: ends, and what the closures of the exported functions compute. -/
import Derived.Test.YtdiecekagiledaaGreatDoorVEHull
set_option linter.unusedSimpArgs false
set_option linter.unusedVariables false
namespace Go.Proofs.YtdiecekagiledaaGreatDoor
open Go Go.RowKit Go.Lib Go.Shelf
def IvRow(W:World)(b:Nat)(a:Iv):Prop:=Row W b (oI a.lo a.hi)
theorem IvRow.below{W W':World}{b:Nat}{a:Iv}(h:IvRow W b a)(hb:Below W.heap.size W W'):IvRow W' b a:=Ae h hb
theorem IvRow.facts{W:World}{b:Nat}{a:Iv}(h:IvRow W b a):W.cell? ⟨b,0,none⟩=some (.string (S a.lo.num))/\W.cell? ⟨b,1,none⟩=some (.string (S (a.lo.den:Int)))/\W.cell? ⟨b,2,none⟩=some (.string (S a.hi.num))/\W.cell? ⟨b,3,none⟩=some (.string (S (a.hi.den:Int))) :=
 have h:=AM h
 ⟨h.2.1,h.2.2.1,h.2.2.2.1,h.2.2.2.2.1⟩
end Go.Proofs.YtdiecekagiledaaGreatDoor
