/-
  Words for walks whose variables are blocks of cells: what a block holds, from world to world. Chains of tactics that the walks use again and again, each behind the name of a theorem whose argument is automatic: the chain runs where the name stands. Package enclosure: check, and compute with its deferred closure: a result is handed back; a panic with errFails becomes ErrEnclosure. What the rows' listed variables give, and a world that meets the list; arrays of integers as arguments. The drift laws' list of package-level variables: what Env wants. What the eight operations of the laws' calls hand back, as a relation; that results narrow with their operands, their digits, and the bounds that Rounds' differences need. Plain: no program in sight.
-/
import Derived.Carry
import Derived.Deep.DeepHandedRow
import Derived.Defers
import Derived.LaidEql
import Derived.Lay
import Derived.Lib.LaidTab
import Derived.Lib.LaidU8
import Derived.Lib.SmallJoins
import Derived.MakeChecks
import Derived.OpenShut
import Derived.ProofKit
import Derived.Recover
import Derived.RowKitTokens
import Derived.SevenTiedAt
import Derived.Stop.Asserts
import Derived.Stop.LaidErr
import Derived.Test.YtngohpgkceedeaaGreatDoorCards
import Derived.Test.YtngohpgkceedeaaGreatDoorProg
import Derived.Test.YtngohpgkceedeaaGreatDoorTie
import Derived.WalkKit
import Derived.WalkMore
import Derived.WideKeyArr2
import Derived.Test.YtngohpgkceedeaaGreatDoorWQPlain6
import Derived.Test.YtngohpgkceedeaaGreatDoorWQSum
set_option linter.unusedSimpArgs false
set_option linter.unusedVariables false
namespace Go.Proofs.YtngohpgkceedeaaGreatDoor
open Go Go.RowKit Go.Lib Go.Shelf

/-- A call at a world of which only some facts are kept. -/
theorem world_cut {P : Program} {F : FuncId} {args : Array Value} {w : World} {R : Ending → World → Prop} (p : World → Prop) (h0 : p w) (h : ∀ W, p W → Calls P F args W R) : Calls P F args w R := h w h0
theorem row_new' {w : World} {b : Nat} {o : Obj} (h : b = w.heap.size) : Row (w.alloc o) b o := h ▸ row_new w o
theorem Row.drew {W : World} {b : Nat} {o : Obj} (h : Row W b o) : Row W.drew b o := h
theorem Row.drewN {W : World} {b : Nat} {o : Obj} (h : Row W b o) (k : Nat) : Row (W.drewN k) b o := h
theorem Row.set_other {W : World} {b c i : Nat} {o : Obj} (h : Row W b o) (v : Value) (hne : b ≠ c) : Row (W.setCell ⟨c, i, none⟩ v) b o :=
  ⟨by simpa using h.1, by rw [Below.heap_setCell _ _ _ _ hne]; exact h.2⟩
theorem Row.set_same {W : World} {b i : Nat} {vs vs' : Array Value} {v : Value} {t : TypeId} (h : Row W b (.cells vs t)) (e : vs.setIfInBounds i v = vs') : Row (W.setCell ⟨b, i, none⟩ v) b (.cells vs' t) :=
  ⟨by simpa using h.1, by simp [World.setCell, Array.getElem?_modify, h.2, e]⟩
theorem Row.set2 {W : World} {b : Nat} {v0 v1 u0 u1 : Value} {t : TypeId} (h : Row W b (.cells #[v0, v1] t)) : Row ((W.setCell ⟨b, 0, none⟩ u0).setCell ⟨b, 1, none⟩ u1) b (.cells #[u0, u1] t) := (h.set_same rfl).set_same rfl
theorem Row.set4 {W : World} {b : Nat} {v0 v1 v2 v3 u0 u1 u2 u3 : Value} {t : TypeId} (h : Row W b (.cells #[v0, v1, v2, v3] t)) :
    Row ((((W.setCell ⟨b, 0, none⟩ u0).setCell ⟨b, 1, none⟩ u1).setCell ⟨b, 2, none⟩ u2).setCell ⟨b, 3, none⟩ u3) b (.cells #[u0, u1, u2, u3] t) := (((h.set_same rfl).set_same rfl).set_same rfl).set_same rfl
theorem Row.set1 {W : World} {b : Nat} {v0 u0 : Value} {t : TypeId} (h : Row W b (.cells #[v0] t)) : Row (W.setCell ⟨b, 0, none⟩ u0) b (.cells #[u0] t) := h.set_same rfl
theorem Row.set4a {W : World} {b : Nat} {v0 v1 v2 v3 u0 u1 : Value} {t : TypeId} (h : Row W b (.cells #[v0, v1, v2, v3] t)) : Row ((W.setCell ⟨b, 0, none⟩ u0).setCell ⟨b, 1, none⟩ u1) b (.cells #[u0, u1, v2, v3] t) := (h.set_same rfl).set_same rfl
theorem Row.set4b {W : World} {b : Nat} {v0 v1 v2 v3 u2 u3 : Value} {t : TypeId} (h : Row W b (.cells #[v0, v1, v2, v3] t)) : Row ((W.setCell ⟨b, 2, none⟩ u2).setCell ⟨b, 3, none⟩ u3) b (.cells #[v0, v1, u2, u3] t) := (h.set_same rfl).set_same rfl
theorem post_cut {P : Program} {fn : Func} {R : Ending → World → Prop} {ex : Exit} {a : Act} {w : World} (p : World → Prop) (h0 : p w) (h : ∀ W, p W → bodyPost P fn R ex a W) : bodyPost P fn R ex a w := h w h0
theorem wp_cut {P : Program} {c : Code} {Q : Exit → Act → World → Prop} {a : Act} {w : World} (p : World → Prop) (h0 : p w) (h : ∀ W, p W → c.wp P Q a W) : c.wp P Q a w := h w h0
theorem Row.cells2 {W : World} {b : Nat} {v0 v1 : Value} {t : TypeId} (h : Row W b (.cells #[v0, v1] t)) :
    b < W.heap.size ∧ W.cell? ⟨b, 0, none⟩ = some v0 ∧ W.cell? ⟨b, 1, none⟩ = some v1 ∧ W.frozen? ⟨b, 0, none⟩ = false ∧ W.frozen? ⟨b, 1, none⟩ = false := ⟨h.1, two_facts h.2⟩
theorem Row.cells4 {W : World} {b : Nat} {v0 v1 v2 v3 : Value} {t : TypeId} (h : Row W b (.cells #[v0, v1, v2, v3] t)) :
    b < W.heap.size ∧ W.cell? ⟨b, 0, none⟩ = some v0 ∧ W.cell? ⟨b, 1, none⟩ = some v1 ∧ W.cell? ⟨b, 2, none⟩ = some v2 ∧ W.cell? ⟨b, 3, none⟩ = some v3
      ∧ W.frozen? ⟨b, 0, none⟩ = false ∧ W.frozen? ⟨b, 1, none⟩ = false ∧ W.frozen? ⟨b, 2, none⟩ = false ∧ W.frozen? ⟨b, 3, none⟩ = false :=
  ⟨h.1, cell_of_row _ _ 0 _ _ _ h.2, cell_of_row _ _ 1 _ _ _ h.2, cell_of_row _ _ 2 _ _ _ h.2, cell_of_row _ _ 3 _ _ _ h.2, frozen_of_row _ _ 0 _ _ h.2, frozen_of_row _ _ 1 _ _ h.2, frozen_of_row _ _ 2 _ _ h.2, frozen_of_row _ _ 3 _ _ h.2⟩
end Go.Proofs.YtngohpgkceedeaaGreatDoor
namespace Go.Proofs.YtngohpgkceedeaaGreatDoor
open Go Go.RowKit Go.Lib

theorem C1_hB {P : Prop} (h : P := by repeat (first | (with_reducible exact hB) | (with_reducible exact Below.refl _ _) | (with_reducible refine Below.drew ?_) | (with_reducible refine below_drewN ?_ _) | (with_reducible refine Below.alloc ?_ (by first | omega | (simp; done) | (simp; omega)) _) | (with_reducible refine Below.setCell ?_ (by first | omega | (simp; done) | (simp; omega)) _))) : P := h
theorem C2 {P : Prop} (h : P := by repeat (first | (with_reducible exact row_new' (by first | omega | (simp; done) | (simp; omega))) | (with_reducible refine Row.drew ?_) | (with_reducible refine Row.drewN ?_ _) | (with_reducible refine Row.alloc ?_ _) | (with_reducible apply Row.set4) | (with_reducible apply Row.set4a) | (with_reducible apply Row.set4b) | (with_reducible apply Row.set2) | (with_reducible apply Row.set1) | (with_reducible refine Row.set_other ?_ _ (by first | omega | (simp; done) | (simp; omega))))) : P := h
theorem C3_ro {P : Prop} (h : P := by repeat (first | (with_reducible exact ro) | (with_reducible exact row_new' (by first | omega | (simp; done) | (simp; omega))) | (with_reducible refine Row.drew ?_) | (with_reducible refine Row.drewN ?_ _) | (with_reducible refine Row.alloc ?_ _) | (with_reducible apply Row.set4) | (with_reducible apply Row.set4a) | (with_reducible apply Row.set4b) | (with_reducible apply Row.set2) | (with_reducible apply Row.set1) | (with_reducible refine Row.set_other ?_ _ (by first | omega | (simp; done) | (simp; omega))))) : P := h
end Go.Proofs.YtngohpgkceedeaaGreatDoor
namespace Go.Proofs.YtngohpgkceedeaaGreatDoor
open Go Go.RowKit Go.Lib Go.Shelf

/-- An interval's value in the program. -/
def I (a : Iv) : Value := .agg #[.string (S a.lo.num), .string (S (a.lo.den : Int)), .string (S a.hi.num), .string (S (a.hi.den : Int))]
/-- What the listed variables hold: as Env, and errFails. -/
structure EnvE (a : Addr) (w : World) : Prop where
  env : Env w
  fails : w.cell? ⟨0, 0, none⟩ = some (.iface 264 (.pointer (some a)))
theorem EnvE.below {a : Addr} {w w' : World} (h : EnvE a w) (hb : Below w.heap.size w w') : EnvE a w' := ⟨h.env.below hb, (hb.cell (World.block_lt_of_cell? _ _ h.fails)).trans h.fails⟩
/-! compute[yardstick/api.Interval] -/
/-! compute[yardstick/api.Ratio] -/
end Go.Proofs.YtngohpgkceedeaaGreatDoor
namespace Go.Proofs.YtngohpgkceedeaaGreatDoor
open Go Go.ChangeShapes Go.WideShapes Go.ChangeAt Go.RowKit Go.Lib Go.WideMaps Go.Joins

theorem lawOwn : ownKnob Tryz.prog.godebug = none := by kernel_rfl
theorem gPow : Tryz.prog.globalNamed "internal/strconv.uint64pow10" = some 4 := by kernel_rfl
theorem gPowType : (Tryz.prog.globals[4]?).map (·.type) = some 254 := by kernel_rfl
theorem cellsPow : Tryz.prog.cellsOf 254 = 20 := by kernel_rfl
theorem cellsU64 : Tryz.prog.cellsOf 217 = 1 := by kernel_rfl
theorem gRange : Tryz.prog.globalNamed "strconv.ErrRange" = some 3 := by kernel_rfl
theorem gRangeType : (Tryz.prog.globals[3]?).map (·.type) = some 147 := by kernel_rfl
theorem gSyntax : Tryz.prog.globalNamed "strconv.ErrSyntax" = some 2 := by kernel_rfl
theorem gSyntaxType : (Tryz.prog.globals[2]?).map (·.type) = some 147 := by kernel_rfl
/-- A variable of an interface type that reads as an interface value holds one. -/
theorem iface_of_reads {P : Program} {W : World} {n nm : String} {d : DataW Unit} {g : Nat} {ti : TypeId} {ms : Array (String × TypeId)} (h : VarReads P W n (.iface nm d)) (hg : P.globalNamed n = some g) (ht : (P.globals[g]?).map (·.type) = some ti) (hi : P.underlying ti = some (.interface ms)) :
    ∃ te pe, W.cell? ⟨g, 0, none⟩ = some (.iface te pe) := by
  obtain ⟨g', t', cs, fuel, p, hg', ht', hvar, hd⟩ := h
  obtain rfl := Option.some.inj (hg.symm.trans hg')
  obtain rfl := Option.some.inj (ht.symm.trans ht')
  have hc := World.var?_cell hg hvar 0
  have hc' : W.cell? ⟨g, 0, none⟩ = cs.toList[0]? := by rw [hc]; simp
  generalize cs.toList = l at hd hc'
  cases fuel with
  | zero => simp [DataW.trod] at hd
  | succ k =>
    rcases l with _ | ⟨v, _ | ⟨v', l⟩⟩
    · simp [DataW.trod, hi] at hd
    · cases v with
      | iface te pe => exact ⟨te, pe, by simpa using hc'⟩
      | _ => simp [DataW.trod, hi] at hd
    · simp [DataW.trod, hi] at hd
theorem listN2 {α : Type} {l : List α} (h : l.length = 2) : ∃ a b, l = [a, b] := by
  obtain ⟨a, b, e⟩ := array2 (cs := l.toArray) (by simpa using h)
  exact ⟨a, b, by simpa using congrArg Array.toList e⟩
theorem isInt_wf {a : Int} (h : (Lit.int .i64 a).wf = true) : IsInt a := by
  have h2 : -9223372036854775808 ≤ a ∧ a ≤ 9223372036854775807 := by simpa [Lit.wf, IntKind.min, IntKind.max, IntKind.signed, IntKind.bits] using h
  exact h2
theorem arrKey2 : ArrKey Tryz.prog 50 3 2 := ⟨Tryz.underlying50, by kernel_rfl, by kernel_rfl, by kernel_rfl⟩
set_option maxRecDepth 100000 in
/-- An argument that is an array of 2 integers. -/
theorem open_ints2 {H : Type} {enc : TypeId × Value → H} {W : World} {v : Value} {d : DataW H} {ps : List MemPlace} {base : Nat} (hv : Value.okWide Tryz.prog W .any base 50 v)
    (h : DataW.Trod enc Tryz.prog W 0 (fun _ => true) true 50 v d ps) : ∃ x0 x1 : Int, v = .agg #[.int .i64 x0, .int .i64 x1] ∧ ps = [] ∧ IsInt x0 ∧ IsInt x1 := by
  obtain ⟨cs, rfl, hsz⟩ : ∃ xs : Array Value, v = .agg xs ∧ xs.size = 2 := okWide_arr arrKey2 hv
  obtain ⟨c0, c1, rfl⟩ := array2 hsz
  obtain ⟨fuel, hf⟩ := h
  obtain ⟨ys, m, _, hx, _, hl, hi⟩ := DataW.trod_array Tryz.underlying50 hf
  have ce : Tryz.prog.cellsOf 3 = 1 := by kernel_rfl
  rw [ce] at hi

  obtain ⟨y0, y1, rfl⟩ : ∃ y0 y1, ys = [y0, y1] := listN2 hl
  have h0 : DataW.trod enc Tryz.prog W 0 (fun _ => true) true m 3 [c0] = some y0 := by simpa [Value.cells] using hi 0 (by omega)
  obtain ⟨x0, e0, f0, g0⟩ := DataW.trod_int Tryz.underlying3 h0
  have h1 : DataW.trod enc Tryz.prog W 0 (fun _ => true) true m 3 [c1] = some y1 := by simpa [Value.cells] using hi 1 (by omega)
  obtain ⟨x1, e1, f1, g1⟩ := DataW.trod_int Tryz.underlying3 h1
  simp only [List.cons.injEq, and_true] at e0 e1
  subst e0 e1
  refine ⟨x0, x1, rfl, ?_, isInt_wf g0, isInt_wf g1⟩
  · simp only [Prod.mk.injEq] at hx
    rw [hx.2]; simp [f0, f1]
end Go.Proofs.YtngohpgkceedeaaGreatDoor
namespace Go.Proofs.YtngohpgkceedeaaGreatDoor
open Go Go.ChangeShapes Go.WideShapes Go.ChangeAt Go.RowKit Go.Lib Go.WideMaps Go.Joins

/-- The list, the same in each row of this seat's drift laws but DriftUntil's. -/
abbrev lawLaid12 : List (String × DataW Unit) := Rows.driftContradictsRow.laid
theorem env12_of_laid {W : World} (h : laidMetH Tryz.prog lawLaid12 W) : Env W := by
  rw [MakeChecks.laidMetH_plain _ _ _ (by kernel_rfl)] at h
  refine ⟨?_, iface_of_reads (Lib.laidMet.reads h (.tail _ (.tail _ (.tail _ (.tail _ (.tail _ (.head _))))))) gSyntax gSyntaxType Tryz.underlying147, iface_of_reads (Lib.laidMet.reads h (.tail _ (.tail _ (.tail _ (.tail _ (.head _)))))) gRange gRangeType Tryz.underlying147⟩
  exact Lib.tabIs_of_head (rest := lawLaid12.drop 3) gPow gPowType Tryz.underlying254 Tryz.underlying217 cellsU64 cellsPow h.tail.tail
/-- A world that meets the list. -/
noncomputable def lawWorld12 (os : Os) : World := World.laidAll Tryz.prog os lawLaid12
theorem laid_met12 (os : Os) (args : Array Value) : laidMetH Tryz.prog lawLaid12 ((lawWorld12 os).forCall (fun _ _ => 0) ⟨#[], args, []⟩).memory := by
  rw [MakeChecks.laidMetH_plain _ _ _ (by kernel_rfl)]
  exact laidMet_laidAll _ (by kernel_rfl) (by kernel_rfl)
end Go.Proofs.YtngohpgkceedeaaGreatDoor
namespace Go.Proofs.YtngohpgkceedeaaGreatDoor
open Go Go.Lib

/-- What the k-th operation hands back (T = 10^places): `none` is the error. -/
def OpRes (k : Nat) (a b : Iv) (T : Int) (o : Option Iv) : Prop :=
  match k with
  | 0 => o = some (addI a b)
  | 1 => o = some (subI a b)
  | 2 => o = some (mulI a b)
  | 3 => (b.Free ∧ o = some (divI a b)) ∨ (¬ b.Free ∧ o = none)
  | 4 => o = some (hullI a b)
  | 5 => ((meetI a b).Ok ∧ o = some (meetI a b)) ∨ (¬ (meetI a b).Ok ∧ o = none)
  | 6 => (0 ≤ a.lo ∧ ∃ s, SqrtI a T s ∧ o = some s) ∨ (a.lo < 0 ∧ o = none)
  | _ => o = some (roundI a T)

theorem OpRes.ok {k : Nat} {a b s : Iv} {T : Int} (hT : 0 < T) (ha : a.Ok) (hb : b.Ok) (h : OpRes k a b T (some s)) : s.Ok := by
  unfold OpRes at h
  split at h
  · cases h; exact addI_ok ha hb
  · cases h; exact subI_ok ha hb
  · cases h; exact mulI_ok ha hb
  · rcases h with ⟨h0, h⟩ | ⟨_, h⟩
    · cases h; exact divI_ok h0 ha hb
    · cases h
  · cases h; exact hullI_ok ha
  · rcases h with ⟨h0, h⟩ | ⟨_, h⟩
    · cases h; exact h0
    · cases h
  · rcases h with ⟨_, t, ht, h⟩ | ⟨_, h⟩
    · cases h; exact SqrtI.ok hT ha ht
    · cases h
  · cases h
    have h1 := sub_roundI (a := a) hT
    have h2 : a.lo ≤ a.hi := ha
    exact Rat.le_trans (Rat.le_trans h1.1 h2) h1.2

/-- Narrower operands: a narrower result; and where only the wider ones have one, it is the meet. -/
theorem OpRes.sub {k : Nat} {a b c d t : Iv} {T : Int} {o : Option Iv} (hT : 0 < T) (ha : a.Ok) (hb : b.Ok) (h1 : a.Sub c) (h2 : b.Sub d)
    (h : OpRes k a b T o) (h' : OpRes k c d T (some t)) : (∃ s, o = some s ∧ s.Sub t) ∨ (k = 5 ∧ o = none) := by
  unfold OpRes at h h'
  split at h <;> simp only at h'
  · cases h'; exact .inl ⟨_, h, addI_sub h1 h2⟩
  · cases h'; exact .inl ⟨_, h, subI_sub h1 h2⟩
  · cases h'; exact .inl ⟨_, h, mulI_sub ha hb h1 h2⟩
  · rcases h' with ⟨h0, h'⟩ | ⟨_, h'⟩
    · cases h'
      rcases h with ⟨_, h⟩ | ⟨hn, _⟩
      · exact .inl ⟨_, h, divI_sub h0 ha hb h1 h2⟩
      · exact absurd (h0.sub h2) hn
    · cases h'
  · cases h'; exact .inl ⟨_, h, hullI_sub ha hb h1 h2⟩
  · rcases h' with ⟨h0, h'⟩ | ⟨_, h'⟩
    · cases h'
      rcases h with ⟨hm, h⟩ | ⟨_, h⟩
      · exact .inl ⟨_, h, meetI_sub hm h1 h2⟩
      · exact .inr ⟨rfl, h⟩
    · cases h'
  · rcases h' with ⟨h0, u, hu, h'⟩ | ⟨_, h'⟩
    · cases h'
      rcases h with ⟨_, s, hs, h⟩ | ⟨hn, _⟩
      · exact .inl ⟨_, h, SqrtI.sub hT h1 hs hu⟩
      · exact absurd (Rat.le_trans h0 h1.1) (Rat.not_le.2 hn)
    · cases h'
  · cases h'; exact .inl ⟨_, h, roundI_sub hT h1⟩

/-- How long the results are. -/
theorem OpRes.dig {k j p : Nat} {a b s : Iv} (hj : 0 < j) (hb : b.Ok) (da : IDig j a) (db : IDig j b) (h : OpRes k a b (TT p) (some s)) : IDig (j + j + p + p + 1) s := by
  unfold OpRes at h
  split at h
  · cases h; exact (addI_dig da db).mono (by omega)
  · cases h; exact (subI_dig da db).mono (by omega)
  · cases h; exact (mulI_dig da db).mono (by omega)
  · rcases h with ⟨h0, h⟩ | ⟨_, h⟩
    · cases h; exact (divI_dig da db h0 hb).mono (by omega)
    · cases h
  · cases h; exact (hullI_dig da db).mono (by omega)
  · rcases h with ⟨h0, h⟩ | ⟨_, h⟩
    · cases h; exact (meetI_dig da db).mono (by omega)
    · cases h
  · rcases h with ⟨_, t, ht, h⟩ | ⟨_, h⟩
    · cases h; exact (SqrtI.dig da hj ht).mono (by omega)
    · cases h
  · cases h; exact (roundI_dig da).mono (by omega)

end Go.Proofs.YtngohpgkceedeaaGreatDoor
