/-
  What the rows' listed variables give, and a world that meets the list.
-/
import Derived.Test.YtnfkibgoockmpaaGreatDoorCards
import Derived.Test.YtnfkibgoockmpaaGreatDoorTie
import Derived.Test.YtnfkibgoockmpaaGreatDoorLaw
import Derived.ProofKit
import Derived.OpenShut
import Derived.Lay
import Derived.MakeChecks
import Derived.Stop.LaidErr
import Derived.Deep.DeepHandedRow
import Derived.Lib.LaidTab
import Derived.Lib.LaidU8
import Derived.SevenTiedAt
namespace Go.Proofs.YtnfkibgoockmpaaGreatDoor
open Go Go.ChangeShapes Go.WideShapes Go.ChangeAt Go.RowKit Go.Lib

theorem lawOwn : ownKnob Tryz.prog.godebug = none := by kernel_rfl
/-- The list, the same in each row of this seat. -/
abbrev lawLaid : List (String × DataW Unit) := Rows.integerRingRow.laid
theorem gPow : Tryz.prog.globalNamed "internal/strconv.uint64pow10" = some 2 := by kernel_rfl
theorem gPowType : (Tryz.prog.globals[2]?).map (·.type) = some 139 := by kernel_rfl
theorem cellsPow : Tryz.prog.cellsOf 139 = 20 := by kernel_rfl
theorem cellsU64 : Tryz.prog.cellsOf 112 = 1 := by kernel_rfl
theorem gRange : Tryz.prog.globalNamed "strconv.ErrRange" = some 1 := by kernel_rfl
theorem gRangeType : (Tryz.prog.globals[1]?).map (·.type) = some 69 := by kernel_rfl
theorem gSyntax : Tryz.prog.globalNamed "strconv.ErrSyntax" = some 0 := by kernel_rfl
theorem gSyntaxType : (Tryz.prog.globals[0]?).map (·.type) = some 69 := by kernel_rfl
/-- A variable of an interface type that reads as an interface value holds one. -/
theorem iface_of_reads {P : Program} {W : World} {n nm : String} {d : DataW Unit} {g : Nat} {ti : TypeId} {ms : Array (String × TypeId)} (h : VarReads P W n (.iface nm d)) (hg : P.globalNamed n = some g) (ht : (P.globals[g]?).map (·.type) = some ti) (hi : P.underlying ti = some (.interface ms)) :
    ∃ te pe, W.cell? ⟨g, 0, none⟩ = some (.iface te pe) := by
  obtain ⟨g', t', cs, fuel, p, hg', ht', hvar, hd⟩ := h
  obtain rfl := Option.some.inj (hg.symm.trans hg')
  obtain rfl := Option.some.inj (ht.symm.trans ht')
  have hc := World.var?_cell hg hvar 0
  have hc' : W.cell? ⟨g, 0, none⟩ = cs.toList[0]? := by rw [hc]; simp
  generalize cs.toList = l at hd hc'
  cases fuel with
  | zero => simp [DataW.trod] at hd
  | succ k =>
    rcases l with _ | ⟨v, _ | ⟨v', l⟩⟩
    · simp [DataW.trod, hi] at hd
    · cases v with
      | iface te pe => exact ⟨te, pe, by simpa using hc'⟩
      | _ => simp [DataW.trod, hi] at hd
    · simp [DataW.trod, hi] at hd
theorem env_of_laid {W : World} (h : laidMetH Tryz.prog lawLaid W) : Env W := by
  rw [MakeChecks.laidMetH_plain _ _ _ (by kernel_rfl)] at h
  refine ⟨?_, iface_of_reads (Lib.laidMet.reads h (.tail _ (.tail _ (.tail _ (.tail _ (.tail _ (.head _))))))) gSyntax gSyntaxType Tryz.underlying69, iface_of_reads (Lib.laidMet.reads h (.tail _ (.tail _ (.tail _ (.tail _ (.head _)))))) gRange gRangeType Tryz.underlying69⟩
  exact Lib.tabIs_of_head (rest := lawLaid.drop 3) gPow gPowType Tryz.underlying139 Tryz.underlying112 cellsU64 cellsPow h.tail.tail
/-- A world that meets the list. -/
noncomputable def lawWorld (os : Os) : World := World.laidAll Tryz.prog os lawLaid
theorem laid_met (os : Os) (args : Array Value) : laidMetH Tryz.prog lawLaid ((lawWorld os).forCall (fun _ _ => 0) ⟨#[], args, []⟩).memory := by
  rw [MakeChecks.laidMetH_plain _ _ _ (by kernel_rfl)]
  exact laidMet_laidAll _ (by kernel_rfl) (by kernel_rfl)
end Go.Proofs.YtnfkibgoockmpaaGreatDoor
