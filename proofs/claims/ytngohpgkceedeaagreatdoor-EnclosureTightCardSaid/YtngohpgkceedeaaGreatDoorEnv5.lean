/-
  What the rows' listed variables give, and a world that meets the list; arrays of integers as arguments.
-/
import Derived.Test.YtngohpgkceedeaaGreatDoorCards
import Derived.Test.YtngohpgkceedeaaGreatDoorTie
import Derived.Test.YtngohpgkceedeaaGreatDoorSane5
import Derived.ProofKit
import Derived.OpenShut
import Derived.Lay
import Derived.MakeChecks
import Derived.Stop.LaidErr
import Derived.Deep.DeepHandedRow
import Derived.Lib.LaidTab
import Derived.Lib.LaidU8
import Derived.SevenTiedAt
import Derived.Carry
import Derived.WideKeyArr2
import Derived.Lib.SmallJoins
set_option linter.unusedSimpArgs false
set_option linter.unusedVariables false
namespace Go.Proofs.YtngohpgkceedeaaGreatDoor
open Go Go.ChangeShapes Go.WideShapes Go.ChangeAt Go.RowKit Go.Lib Go.WideMaps Go.Joins

theorem lawOwn : ownKnob Tryz.prog.godebug = none := by kernel_rfl
/-- The list, the same in each row of this seat. -/
abbrev lawLaid : List (String × DataW Unit) := Rows.enclosureRoundsRow.laid
theorem gPow : Tryz.prog.globalNamed "internal/strconv.uint64pow10" = some 4 := by kernel_rfl
theorem gPowType : (Tryz.prog.globals[4]?).map (·.type) = some 254 := by kernel_rfl
theorem cellsPow : Tryz.prog.cellsOf 254 = 20 := by kernel_rfl
theorem cellsU64 : Tryz.prog.cellsOf 217 = 1 := by kernel_rfl
theorem gRange : Tryz.prog.globalNamed "strconv.ErrRange" = some 3 := by kernel_rfl
theorem gRangeType : (Tryz.prog.globals[3]?).map (·.type) = some 147 := by kernel_rfl
theorem gSyntax : Tryz.prog.globalNamed "strconv.ErrSyntax" = some 2 := by kernel_rfl
theorem gSyntaxType : (Tryz.prog.globals[2]?).map (·.type) = some 147 := by kernel_rfl
theorem gFails : Tryz.prog.globalNamed "yardstick/enclosure.errFails" = some 0 := by kernel_rfl
theorem gFailsType : (Tryz.prog.globals[0]?).map (·.type) = some 147 := by kernel_rfl
theorem starError : "*" ++ "errors.errorString" = "*errors.errorString" := by decide
theorem rowError (u : TypeId) (h : Tryz.prog.typeName? 3 u = some "*errors.errorString") : u = 264 :=
  typeName_ptr_named (nm := "errors.errorString") (by rw [starError]; kernel_rfl) (by kernel_rfl) (by decide) u (by rw [starError]; exact h)
/-- A variable of an interface type that reads as an interface value holds one. -/
theorem iface_of_reads {P : Program} {W : World} {n nm : String} {d : DataW Unit} {g : Nat} {ti : TypeId} {ms : Array (String × TypeId)} (h : VarReads P W n (.iface nm d)) (hg : P.globalNamed n = some g) (ht : (P.globals[g]?).map (·.type) = some ti) (hi : P.underlying ti = some (.interface ms)) :
    ∃ te pe, W.cell? ⟨g, 0, none⟩ = some (.iface te pe) := by
  obtain ⟨g', t', cs, fuel, p, hg', ht', hvar, hd⟩ := h
  obtain rfl := Option.some.inj (hg.symm.trans hg')
  obtain rfl := Option.some.inj (ht.symm.trans ht')
  have hc := World.var?_cell hg hvar 0
  have hc' : W.cell? ⟨g, 0, none⟩ = cs.toList[0]? := by rw [hc]; simp
  generalize cs.toList = l at hd hc'
  cases fuel with
  | zero => simp [DataW.trod] at hd
  | succ k =>
    rcases l with _ | ⟨v, _ | ⟨v', l⟩⟩
    · simp [DataW.trod, hi] at hd
    · cases v with
      | iface te pe => exact ⟨te, pe, by simpa using hc'⟩
      | _ => simp [DataW.trod, hi] at hd
    · simp [DataW.trod, hi] at hd
theorem env_of_laid {W : World} (h : laidMetH Tryz.prog lawLaid W) : ∃ a, EnvE a W := by
  rw [MakeChecks.laidMetH_plain _ _ _ (by kernel_rfl)] at h
  obtain ⟨a, s, hv, _⟩ := laid_sentinel (r := lawLaid.drop 7) h.tail.tail.tail.tail.tail.tail gFails gFailsType Tryz.underlying147 rowError Tryz.underlying264 Tryz.underlying266 rfl rfl Tryz.underlying9 (by kernel_rfl) (by kernel_rfl)
  refine ⟨a, ⟨?_, iface_of_reads (Lib.laidMet.reads h (.tail _ (.tail _ (.tail _ (.tail _ (.tail _ (.head _))))))) gSyntax gSyntaxType Tryz.underlying147, iface_of_reads (Lib.laidMet.reads h (.tail _ (.tail _ (.tail _ (.tail _ (.head _)))))) gRange gRangeType Tryz.underlying147⟩, ?_⟩
  · exact Lib.tabIs_of_head (rest := lawLaid.drop 3) gPow gPowType Tryz.underlying254 Tryz.underlying217 cellsU64 cellsPow h.tail.tail
  · have := World.var?_cell gFails hv 0
    simpa using this
/-- A world that meets the list. -/
noncomputable def lawWorld (os : Os) : World := World.laidAll Tryz.prog os lawLaid
theorem laid_met (os : Os) (args : Array Value) : laidMetH Tryz.prog lawLaid ((lawWorld os).forCall (fun _ _ => 0) ⟨#[], args, []⟩).memory := by
  rw [MakeChecks.laidMetH_plain _ _ _ (by kernel_rfl)]
  exact laidMet_laidAll _ (by kernel_rfl) (by kernel_rfl)

theorem listN4 {α : Type} {l : List α} (h : l.length = 4) : ∃ a b c d, l = [a, b, c, d] := by
  obtain ⟨a, b, c, d, e⟩ := array4 (cs := l.toArray) (by simpa using h)
  exact ⟨a, b, c, d, by simpa using congrArg Array.toList e⟩
theorem listN2 {α : Type} {l : List α} (h : l.length = 2) : ∃ a b, l = [a, b] := by
  obtain ⟨a, b, e⟩ := array2 (cs := l.toArray) (by simpa using h)
  exact ⟨a, b, by simpa using congrArg Array.toList e⟩
theorem isInt_wf {a : Int} (h : (Lit.int .i64 a).wf = true) : IsInt a := by
  have h2 : -9223372036854775808 ≤ a ∧ a ≤ 9223372036854775807 := by simpa [Lit.wf, IntKind.min, IntKind.max, IntKind.signed, IntKind.bits] using h
  exact h2
theorem arrKey4 : ArrKey Tryz.prog 22 3 4 := ⟨Tryz.underlying22, by kernel_rfl, by kernel_rfl, by kernel_rfl⟩
set_option maxRecDepth 100000 in
/-- An argument that is an array of 4 integers. -/
theorem open_ints4 {H : Type} {enc : TypeId × Value → H} {W : World} {v : Value} {d : DataW H} {ps : List MemPlace} {base : Nat} (hv : Value.okWide Tryz.prog W .any base 22 v)
    (h : DataW.Trod enc Tryz.prog W 0 (fun _ => true) true 22 v d ps) : ∃ x0 x1 x2 x3 : Int, v = .agg #[.int .i64 x0, .int .i64 x1, .int .i64 x2, .int .i64 x3] ∧ ps = [] ∧ IsInt x0 ∧ IsInt x1 ∧ IsInt x2 ∧ IsInt x3 := by
  obtain ⟨cs, rfl, hsz⟩ : ∃ xs : Array Value, v = .agg xs ∧ xs.size = 4 := okWide_arr arrKey4 hv
  obtain ⟨c0, c1, c2, c3, rfl⟩ := array4 hsz
  obtain ⟨fuel, hf⟩ := h
  obtain ⟨ys, m, _, hx, _, hl, hi⟩ := DataW.trod_array Tryz.underlying22 hf
  have ce : Tryz.prog.cellsOf 3 = 1 := by kernel_rfl
  rw [ce] at hi

  obtain ⟨y0, y1, y2, y3, rfl⟩ : ∃ y0 y1 y2 y3, ys = [y0, y1, y2, y3] := listN4 hl
  have h0 : DataW.trod enc Tryz.prog W 0 (fun _ => true) true m 3 [c0] = some y0 := by simpa [Value.cells] using hi 0 (by omega)
  obtain ⟨x0, e0, f0, g0⟩ := DataW.trod_int Tryz.underlying3 h0
  have h1 : DataW.trod enc Tryz.prog W 0 (fun _ => true) true m 3 [c1] = some y1 := by simpa [Value.cells] using hi 1 (by omega)
  obtain ⟨x1, e1, f1, g1⟩ := DataW.trod_int Tryz.underlying3 h1
  have h2 : DataW.trod enc Tryz.prog W 0 (fun _ => true) true m 3 [c2] = some y2 := by simpa [Value.cells] using hi 2 (by omega)
  obtain ⟨x2, e2, f2, g2⟩ := DataW.trod_int Tryz.underlying3 h2
  have h3 : DataW.trod enc Tryz.prog W 0 (fun _ => true) true m 3 [c3] = some y3 := by simpa [Value.cells] using hi 3 (by omega)
  obtain ⟨x3, e3, f3, g3⟩ := DataW.trod_int Tryz.underlying3 h3
  simp only [List.cons.injEq, and_true] at e0 e1 e2 e3
  subst e0 e1 e2 e3
  refine ⟨x0, x1, x2, x3, rfl, ?_, isInt_wf g0, isInt_wf g1, isInt_wf g2, isInt_wf g3⟩
  · simp only [Prod.mk.injEq] at hx
    rw [hx.2]; simp [f0, f1, f2, f3]
theorem arrKey2 : ArrKey Tryz.prog 50 3 2 := ⟨Tryz.underlying50, by kernel_rfl, by kernel_rfl, by kernel_rfl⟩
set_option maxRecDepth 100000 in
/-- An argument that is an array of 2 integers. -/
theorem open_ints2 {H : Type} {enc : TypeId × Value → H} {W : World} {v : Value} {d : DataW H} {ps : List MemPlace} {base : Nat} (hv : Value.okWide Tryz.prog W .any base 50 v)
    (h : DataW.Trod enc Tryz.prog W 0 (fun _ => true) true 50 v d ps) : ∃ x0 x1 : Int, v = .agg #[.int .i64 x0, .int .i64 x1] ∧ ps = [] ∧ IsInt x0 ∧ IsInt x1 := by
  obtain ⟨cs, rfl, hsz⟩ : ∃ xs : Array Value, v = .agg xs ∧ xs.size = 2 := okWide_arr arrKey2 hv
  obtain ⟨c0, c1, rfl⟩ := array2 hsz
  obtain ⟨fuel, hf⟩ := h
  obtain ⟨ys, m, _, hx, _, hl, hi⟩ := DataW.trod_array Tryz.underlying50 hf
  have ce : Tryz.prog.cellsOf 3 = 1 := by kernel_rfl
  rw [ce] at hi

  obtain ⟨y0, y1, rfl⟩ : ∃ y0 y1, ys = [y0, y1] := listN2 hl
  have h0 : DataW.trod enc Tryz.prog W 0 (fun _ => true) true m 3 [c0] = some y0 := by simpa [Value.cells] using hi 0 (by omega)
  obtain ⟨x0, e0, f0, g0⟩ := DataW.trod_int Tryz.underlying3 h0
  have h1 : DataW.trod enc Tryz.prog W 0 (fun _ => true) true m 3 [c1] = some y1 := by simpa [Value.cells] using hi 1 (by omega)
  obtain ⟨x1, e1, f1, g1⟩ := DataW.trod_int Tryz.underlying3 h1
  simp only [List.cons.injEq, and_true] at e0 e1
  subst e0 e1
  refine ⟨x0, x1, rfl, ?_, isInt_wf g0, isInt_wf g1⟩
  · simp only [Prod.mk.injEq] at hx
    rw [hx.2]; simp [f0, f1]
end Go.Proofs.YtngohpgkceedeaaGreatDoor
