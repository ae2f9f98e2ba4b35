/-
  Words for walks whose variables are blocks of cells: what a block holds, from world to world. errors.Is, where both errors are one that errors.New has made: true. Chains of tactics that the walks use again and again, each behind the name of a theorem whose argument is automatic: the chain runs where the name stands. Package enclosure: check, and compute with its deferred closure: a result is handed back; a panic with errFails becomes ErrEnclosure.
-/
import Derived.Defers
import Derived.LaidEql
import Derived.Recover
import Derived.RowKitTokens
import Derived.Stop.Asserts
import Derived.Test.YtngohpgkceedeaaGreatDoorProg
import Derived.WalkKit
import Derived.WalkMore
import Derived.Test.YtngohpgkceedeaaGreatDoorKQPlain6
import Derived.Test.YtngohpgkceedeaaGreatDoorKQSum
namespace Go.Proofs.YtngohpgkceedeaaGreatDoor
open Go Go.RowKit Go.Lib Go.Shelf

/-- A call at a world of which only some facts are kept. -/
theorem world_cut {P : Program} {F : FuncId} {args : Array Value} {w : World} {R : Ending → World → Prop} (p : World → Prop) (h0 : p w) (h : ∀ W, p W → Calls P F args W R) : Calls P F args w R := h w h0
theorem row_new' {w : World} {b : Nat} {o : Obj} (h : b = w.heap.size) : Row (w.alloc o) b o := h ▸ row_new w o
theorem Row.drew {W : World} {b : Nat} {o : Obj} (h : Row W b o) : Row W.drew b o := h
theorem Row.drewN {W : World} {b : Nat} {o : Obj} (h : Row W b o) (k : Nat) : Row (W.drewN k) b o := h
theorem Row.set_other {W : World} {b c i : Nat} {o : Obj} (h : Row W b o) (v : Value) (hne : b ≠ c) : Row (W.setCell ⟨c, i, none⟩ v) b o :=
  ⟨by simpa using h.1, by rw [Below.heap_setCell _ _ _ _ hne]; exact h.2⟩
theorem Row.set_same {W : World} {b i : Nat} {vs vs' : Array Value} {v : Value} {t : TypeId} (h : Row W b (.cells vs t)) (e : vs.setIfInBounds i v = vs') : Row (W.setCell ⟨b, i, none⟩ v) b (.cells vs' t) :=
  ⟨by simpa using h.1, by simp [World.setCell, Array.getElem?_modify, h.2, e]⟩
theorem Row.set2 {W : World} {b : Nat} {v0 v1 u0 u1 : Value} {t : TypeId} (h : Row W b (.cells #[v0, v1] t)) : Row ((W.setCell ⟨b, 0, none⟩ u0).setCell ⟨b, 1, none⟩ u1) b (.cells #[u0, u1] t) := (h.set_same rfl).set_same rfl
theorem Row.set4 {W : World} {b : Nat} {v0 v1 v2 v3 u0 u1 u2 u3 : Value} {t : TypeId} (h : Row W b (.cells #[v0, v1, v2, v3] t)) :
    Row ((((W.setCell ⟨b, 0, none⟩ u0).setCell ⟨b, 1, none⟩ u1).setCell ⟨b, 2, none⟩ u2).setCell ⟨b, 3, none⟩ u3) b (.cells #[u0, u1, u2, u3] t) := (((h.set_same rfl).set_same rfl).set_same rfl).set_same rfl
theorem Row.set1 {W : World} {b : Nat} {v0 u0 : Value} {t : TypeId} (h : Row W b (.cells #[v0] t)) : Row (W.setCell ⟨b, 0, none⟩ u0) b (.cells #[u0] t) := h.set_same rfl
theorem Row.set4a {W : World} {b : Nat} {v0 v1 v2 v3 u0 u1 : Value} {t : TypeId} (h : Row W b (.cells #[v0, v1, v2, v3] t)) : Row ((W.setCell ⟨b, 0, none⟩ u0).setCell ⟨b, 1, none⟩ u1) b (.cells #[u0, u1, v2, v3] t) := (h.set_same rfl).set_same rfl
theorem Row.set4b {W : World} {b : Nat} {v0 v1 v2 v3 u2 u3 : Value} {t : TypeId} (h : Row W b (.cells #[v0, v1, v2, v3] t)) : Row ((W.setCell ⟨b, 2, none⟩ u2).setCell ⟨b, 3, none⟩ u3) b (.cells #[v0, v1, u2, u3] t) := (h.set_same rfl).set_same rfl
theorem post_cut {P : Program} {fn : Func} {R : Ending → World → Prop} {ex : Exit} {a : Act} {w : World} (p : World → Prop) (h0 : p w) (h : ∀ W, p W → bodyPost P fn R ex a W) : bodyPost P fn R ex a w := h w h0
theorem wp_cut {P : Program} {c : Code} {Q : Exit → Act → World → Prop} {a : Act} {w : World} (p : World → Prop) (h0 : p w) (h : ∀ W, p W → c.wp P Q a W) : c.wp P Q a w := h w h0
theorem Row.cells1 {W : World} {b : Nat} {v0 : Value} {t : TypeId} (h : Row W b (.cells #[v0] t)) : b < W.heap.size ∧ W.cell? ⟨b, 0, none⟩ = some v0 ∧ W.frozen? ⟨b, 0, none⟩ = false := ⟨h.1, one_facts h.2⟩
theorem Row.cells2 {W : World} {b : Nat} {v0 v1 : Value} {t : TypeId} (h : Row W b (.cells #[v0, v1] t)) :
    b < W.heap.size ∧ W.cell? ⟨b, 0, none⟩ = some v0 ∧ W.cell? ⟨b, 1, none⟩ = some v1 ∧ W.frozen? ⟨b, 0, none⟩ = false ∧ W.frozen? ⟨b, 1, none⟩ = false := ⟨h.1, two_facts h.2⟩
theorem Row.cells4 {W : World} {b : Nat} {v0 v1 v2 v3 : Value} {t : TypeId} (h : Row W b (.cells #[v0, v1, v2, v3] t)) :
    b < W.heap.size ∧ W.cell? ⟨b, 0, none⟩ = some v0 ∧ W.cell? ⟨b, 1, none⟩ = some v1 ∧ W.cell? ⟨b, 2, none⟩ = some v2 ∧ W.cell? ⟨b, 3, none⟩ = some v3
      ∧ W.frozen? ⟨b, 0, none⟩ = false ∧ W.frozen? ⟨b, 1, none⟩ = false ∧ W.frozen? ⟨b, 2, none⟩ = false ∧ W.frozen? ⟨b, 3, none⟩ = false :=
  ⟨h.1, cell_of_row _ _ 0 _ _ _ h.2, cell_of_row _ _ 1 _ _ _ h.2, cell_of_row _ _ 2 _ _ _ h.2, cell_of_row _ _ 3 _ _ _ h.2, frozen_of_row _ _ 0 _ _ h.2, frozen_of_row _ _ 1 _ _ h.2, frozen_of_row _ _ 2 _ _ h.2, frozen_of_row _ _ 3 _ _ h.2⟩
end Go.Proofs.YtngohpgkceedeaaGreatDoor
namespace Go.Proofs.YtngohpgkceedeaaGreatDoor
open Go Go.RowKit Go.Extern.Stop Go.Stop Go.Extern

theorem isTypeOf (v : Value) (w : World) : (Extern.ReflectliteType.typeOf #[.iface 264 v]).run Tryz.prog w = .ok (.iface 203 (.agg #[.pointer (some ⟨9, 264, none⟩)])) w := by kernel_rfl
theorem callComparable (w : World) : (callFunc 275 #[.agg #[.pointer (some ⟨9, 264, none⟩)]]).run Tryz.prog w = .ok (.value (.bool true)) w := by
  have h := @run_callFunc_extern Tryz.prog 275 _ (Extern.ReflectliteType.method fun t => do Extern.Rtype.noPackHeld "Comparable" t; pure (.bool (← typeInfo t).comparable)) Tryz.func275 (by kernel_rfl) (by kernel_rfl) (by kernel_rfl) (by kernel_rfl) #[.agg #[.pointer (some ⟨9, 264, none⟩)]] w
  rw [h]
  have c : ((Extern.ReflectliteType.method fun t => do Extern.Rtype.noPackHeld "Comparable" t; pure (.bool (← typeInfo t).comparable)) #[.agg #[.pointer (some ⟨9, 264, none⟩)]]).run Tryz.prog w = .ok (.bool true) w := by kernel_rfl
  rw [c]; rfl
-- 399: the number of types and a hundred, as the walk shows it; 9: the number of package-level variables: a new seat has other numbers
theorem isMethodComparable (v : Value) (w : World) : (Go.method 399 203 v "Comparable").run Tryz.prog w = .ok (275, v) w := by kernel_rfl
theorem is_comp : (Tryz.prog.info? 264).map (·.comparable) = some true := by kernel_rfl
theorem is_size : (Tryz.prog.info? 266).map (·.size) = some 1 := by kernel_rfl
set_option maxRecDepth 100000 in
set_option maxHeartbeats 1000000 in
/-- errors.Is(x, x), x a pointer to an errors.errorString. -/
theorem is_same (a : Addr) (w : World) :
    Calls Tryz.prog 129 #[.iface 264 (.pointer (some a)), .iface 264 (.pointer (some a))] w fun e w' => e = .returned (.bool true) ∧ w' = w := by
  obtain ⟨i, hi, hcmp⟩ := Option.map_eq_some_iff.1 is_comp
  obtain ⟨j, hj, hjs⟩ := Option.map_eq_some_iff.1 is_size
  have h8 := @run_callFunc_extern Tryz.prog 181 _ Extern.ReflectliteType.typeOf Tryz.func181 (by kernel_rfl) (by kernel_rfl) (by kernel_rfl) (by kernel_rfl)
  have h32 := callComparable
  have tT := isTypeOf
  have mR := isMethodComparable
  have heq := run_eql_iface_ptr_same (P := Tryz.prog) w a Tryz.underlying147 Tryz.underlying264 hi hcmp hj
  go_enter Tryz.func129, Tryz.ntmps129
  go_wp2
  refine wp_loop_rounds 1 ?_
  rw [rounds_succ]
  go_wp2
  go_ret
  exact ⟨rfl, rfl⟩
end Go.Proofs.YtngohpgkceedeaaGreatDoor
namespace Go.Proofs.YtngohpgkceedeaaGreatDoor
open Go Go.RowKit Go.Lib

theorem C1_hB {P : Prop} (h : P := by repeat (first | (with_reducible exact hB) | (with_reducible exact Below.refl _ _) | (with_reducible refine Below.drew ?_) | (with_reducible refine below_drewN ?_ _) | (with_reducible refine Below.alloc ?_ (by first | omega | (simp; done) | (simp; omega)) _) | (with_reducible refine Below.setCell ?_ (by first | omega | (simp; done) | (simp; omega)) _))) : P := h
theorem C2 {P : Prop} (h : P := by repeat (first | (with_reducible exact row_new' (by first | omega | (simp; done) | (simp; omega))) | (with_reducible refine Row.drew ?_) | (with_reducible refine Row.drewN ?_ _) | (with_reducible refine Row.alloc ?_ _) | (with_reducible apply Row.set4) | (with_reducible apply Row.set4a) | (with_reducible apply Row.set4b) | (with_reducible apply Row.set2) | (with_reducible apply Row.set1) | (with_reducible refine Row.set_other ?_ _ (by first | omega | (simp; done) | (simp; omega))))) : P := h
theorem C3_rs {P : Prop} (h : P := by repeat (first | (with_reducible exact rs) | (with_reducible exact row_new' (by first | omega | (simp; done) | (simp; omega))) | (with_reducible refine Row.drew ?_) | (with_reducible refine Row.drewN ?_ _) | (with_reducible refine Row.alloc ?_ _) | (with_reducible apply Row.set4) | (with_reducible apply Row.set4a) | (with_reducible apply Row.set4b) | (with_reducible apply Row.set2) | (with_reducible apply Row.set1) | (with_reducible refine Row.set_other ?_ _ (by first | omega | (simp; done) | (simp; omega))))) : P := h
theorem C3_ra {P : Prop} (h : P := by repeat (first | (with_reducible exact ra) | (with_reducible exact row_new' (by first | omega | (simp; done) | (simp; omega))) | (with_reducible refine Row.drew ?_) | (with_reducible refine Row.drewN ?_ _) | (with_reducible refine Row.alloc ?_ _) | (with_reducible apply Row.set4) | (with_reducible apply Row.set4a) | (with_reducible apply Row.set4b) | (with_reducible apply Row.set2) | (with_reducible apply Row.set1) | (with_reducible refine Row.set_other ?_ _ (by first | omega | (simp; done) | (simp; omega))))) : P := h
theorem C3_ro {P : Prop} (h : P := by repeat (first | (with_reducible exact ro) | (with_reducible exact row_new' (by first | omega | (simp; done) | (simp; omega))) | (with_reducible refine Row.drew ?_) | (with_reducible refine Row.drewN ?_ _) | (with_reducible refine Row.alloc ?_ _) | (with_reducible apply Row.set4) | (with_reducible apply Row.set4a) | (with_reducible apply Row.set4b) | (with_reducible apply Row.set2) | (with_reducible apply Row.set1) | (with_reducible refine Row.set_other ?_ _ (by first | omega | (simp; done) | (simp; omega))))) : P := h
theorem C3_rx {P : Prop} (h : P := by repeat (first | (with_reducible exact rx) | (with_reducible exact row_new' (by first | omega | (simp; done) | (simp; omega))) | (with_reducible refine Row.drew ?_) | (with_reducible refine Row.drewN ?_ _) | (with_reducible refine Row.alloc ?_ _) | (with_reducible apply Row.set4) | (with_reducible apply Row.set4a) | (with_reducible apply Row.set4b) | (with_reducible apply Row.set2) | (with_reducible apply Row.set1) | (with_reducible refine Row.set_other ?_ _ (by first | omega | (simp; done) | (simp; omega))))) : P := h
theorem C4 {P : Prop} (h : P := by repeat (first | (with_reducible exact row_new' (by first | omega | (simp; done) | (simp; omega))) | (with_reducible refine Row.drew ?_) | (with_reducible refine Row.alloc ?_ _))) : P := h
theorem C5_hB {P : Prop} (h : P := by repeat (first | (with_reducible exact hB) | (with_reducible refine Below.drew ?_) | (with_reducible refine Below.alloc ?_ (by first | omega | (simp; done) | (simp; omega)) _) | (with_reducible refine Below.setCell ?_ (by first | omega | (simp; done) | (simp; omega)) _))) : P := h
theorem C6_rq {P : Prop} (h : P := by repeat (first | (with_reducible exact rq) | (with_reducible exact row_new' (by first | omega | (simp; done) | (simp; omega))) | (with_reducible refine Row.drew ?_) | (with_reducible refine Row.alloc ?_ _) | (with_reducible apply Row.set4) | (with_reducible apply Row.set4a) | (with_reducible apply Row.set4b) | (with_reducible apply Row.set2) | (with_reducible apply Row.set1) | (with_reducible refine Row.set_other ?_ _ (by first | omega | (simp; done) | (simp; omega))))) : P := h
theorem C6_rp {P : Prop} (h : P := by repeat (first | (with_reducible exact rp) | (with_reducible exact row_new' (by first | omega | (simp; done) | (simp; omega))) | (with_reducible refine Row.drew ?_) | (with_reducible refine Row.alloc ?_ _) | (with_reducible apply Row.set4) | (with_reducible apply Row.set4a) | (with_reducible apply Row.set4b) | (with_reducible apply Row.set2) | (with_reducible apply Row.set1) | (with_reducible refine Row.set_other ?_ _ (by first | omega | (simp; done) | (simp; omega))))) : P := h
end Go.Proofs.YtngohpgkceedeaaGreatDoor
namespace Go.Proofs.YtngohpgkceedeaaGreatDoor
open Go Go.RowKit Go.Lib Go.Shelf

/-- An interval's value in the program. -/
def I (a : Iv) : Value := .agg #[.string (S a.lo.num), .string (S (a.lo.den : Int)), .string (S a.hi.num), .string (S (a.hi.den : Int))]
/-- What the listed variables hold: as Env, and errFails. -/
structure EnvE (a : Addr) (w : World) : Prop where
  env : Env w
  fails : w.cell? ⟨0, 0, none⟩ = some (.iface 264 (.pointer (some a)))
theorem EnvE.below {a : Addr} {w w' : World} (h : EnvE a w) (hb : Below w.heap.size w w') : EnvE a w' := ⟨h.env.below hb, (hb.cell (World.block_lt_of_cell? _ _ h.fails)).trans h.fails⟩
def FailsOk (a : Addr) (w : World) (e : Ending) (w' : World) : Prop := e = .panicked [{ v := .iface 264 (.pointer (some a)), recovered := false }] ∧ Below w.heap.size w w'
set_option maxRecDepth 100000 in
theorem echeck_true (w : World) : Calls Tryz.prog 105 #[.bool true] w (UnitOk w) := by
  go_enter Tryz.func105, Tryz.ntmps105
  go_wp2
  go_end0
  exact ⟨rfl, Below.refl _ _⟩
set_option maxRecDepth 100000 in
theorem echeck_false {a : Addr} (w : World) (he : EnvE a w) : Calls Tryz.prog 105 #[.bool false] w (FailsOk a w) := by
  have hg := he.fails
  go_enter Tryz.func105, Tryz.ntmps105
  go_wp2
  exact ⟨rfl, rfl, Below.refl _ _⟩
theorem assert_err (v : Value) (w : World) : (Instr.typeAssert (.iface 264 v) 20 147 true).run Tryz.prog w = .ok (.tuple #[.iface 264 v, .bool true]) w := run_typeAssert_hasB Tryz.underlying147 (by kernel_rfl) v _ w
theorem assert_nil (w : World) : (Instr.typeAssert .nilIface 20 147 true).run Tryz.prog w = .ok (.tuple #[.nilIface, .bool false]) w := by kernel_rfl

/-! compute[yardstick/api.Interval] -/
/-! compute[yardstick/api.Ratio] -/
def rtIs (Pr : Rat → Prop) (w : World) (e : Ending) (w' : World) : Prop := ∃ a, Pr a ∧ e = .returned (Q a) ∧ Below w.heap.size w w'
def rtOk (Pr : Rat → Prop) (w : World) (e : Ending) (w' : World) : Prop := ∃ a, Pr a ∧ e = .returned (.tuple #[Q a, .int .i64 0]) ∧ Below w.heap.size w w'
def rtErr (w : World) (e : Ending) (w' : World) : Prop := e = .returned (.tuple #[.agg #[.string ⟨#[]⟩, .string ⟨#[]⟩], .int .i64 50]) ∧ Below w.heap.size w w'
set_option maxRecDepth 100000 in
set_option maxHeartbeats 1000000 in
theorem rtcatch (bp bq : Nat) (a : Addr) (older : List PanicEntry) (w : World) (v0 v1 x : Value) (hne : bp ≠ bq) (hp : Row w bp (.cells #[v0, v1] 26)) (hq : Row w bq (.cells #[x] 31)) (he : EnvE a w) :
    CallsD Tryz.prog 153 #[.pointer (some ⟨bp, 0, none⟩), .pointer (some ⟨bq, 0, none⟩)] (.panicking ({ v := .iface 264 (.pointer (some a)), recovered := false } :: older)) w fun e u' w' =>
      e = .returned (.tuple #[]) ∧ u' = .panicking ({ v := .iface 264 (.pointer (some a)), recovered := true } :: older) ∧ Row w' bp (.cells #[.string ⟨#[]⟩, .string ⟨#[]⟩] 26) ∧ Row w' bq (.cells #[.int .i64 50] 31) ∧ ∀ n, n ≤ bp → n ≤ bq → Below n w w' := by
  have hta := assert_err
  have hg := he.fails
  obtain ⟨sp, cp0, cp1, fp0, fp1⟩ := Row.cells2 hp
  obtain ⟨sq, cq, fq⟩ := Row.cells1 hq
  have hne' : bq ≠ bp := fun h => hne h.symm
  have np : bp ≠ w.heap.size := by omega
  have nq : bq ≠ w.heap.size := by omega
  refine callsD_of_wpS Tryz.func153 rfl fun c₀ cs hu => ?_
  have e : (#[.pointer (some ⟨bp, 0, none⟩), .pointer (some ⟨bq, 0, none⟩)] ++ Array.replicate (Tryz.f153.ntmps - (#[.pointer (some ⟨bp, 0, none⟩), .pointer (some ⟨bq, 0, none⟩)] : Array Value).size) undef : Array Value) = #[.pointer (some ⟨bp, 0, none⟩), .pointer (some ⟨bq, 0, none⟩), undef, undef, undef, undef, undef, undef, undef, undef, undef, undef, undef, undef, undef, undef, undef] := by kernel_rfl
  rw [e]
  apply wpS_seq
  apply wpS_region
  simp [wpOpsS, go_sem, recoverD, hu, Exit.thenS, hta]
  refine wpS_of_wp ?_
  go_hide hQ
  go_wp2_with fail
  refine (is_same a _).mono ?_
  rintro e' w' ⟨rfl, rfl⟩
  go_wp2
  subst hQ
  refine ⟨rfl, _, rfl, .tuple #[], by simp [results, Tryz.results153], rfl, rfl, ?_, ?_, fun n h1 h2 => ?_⟩
  · repeat (first | (with_reducible exact hp) | (with_reducible exact row_new' (by first | omega | (simp; done) | (simp; omega))) | (with_reducible refine Row.drew ?_) | (with_reducible refine Row.alloc ?_ _) | (with_reducible apply Row.set4) | (with_reducible apply Row.set4a) | (with_reducible apply Row.set4b) | (with_reducible apply Row.set2) | (with_reducible apply Row.set1) | (with_reducible refine Row.set_other ?_ _ (by first | omega | (simp; done) | (simp; omega))))
  · repeat (first | (with_reducible exact hq) | (with_reducible exact row_new' (by first | omega | (simp; done) | (simp; omega))) | (with_reducible refine Row.drew ?_) | (with_reducible refine Row.alloc ?_ _) | (with_reducible apply Row.set4) | (with_reducible apply Row.set4a) | (with_reducible apply Row.set4b) | (with_reducible apply Row.set2) | (with_reducible apply Row.set1) | (with_reducible refine Row.set_other ?_ _ (by first | omega | (simp; done) | (simp; omega))))
  · repeat (first | (with_reducible exact Below.refl _ _) | (with_reducible refine Below.drew ?_) | (with_reducible refine Below.alloc ?_ (by first | omega | (simp; done) | (simp; omega)) _) | (with_reducible refine Below.setCell ?_ (by first | omega | (simp; done) | (simp; omega)) _))
set_option maxRecDepth 100000 in
set_option maxHeartbeats 1000000 in
theorem rtidle (bp bq : Nat) (w : World) :
    CallsD Tryz.prog 153 #[.pointer (some ⟨bp, 0, none⟩), .pointer (some ⟨bq, 0, none⟩)] .returning w fun e u' w' => e = .returned (.tuple #[]) ∧ u' = .returning ∧ w' = w := by
  have hta := assert_nil
  refine callsD_of_wpS Tryz.func153 rfl fun c₀ cs hu => ?_
  have e : (#[.pointer (some ⟨bp, 0, none⟩), .pointer (some ⟨bq, 0, none⟩)] ++ Array.replicate (Tryz.f153.ntmps - (#[.pointer (some ⟨bp, 0, none⟩), .pointer (some ⟨bq, 0, none⟩)] : Array Value).size) undef : Array Value) = #[.pointer (some ⟨bp, 0, none⟩), .pointer (some ⟨bq, 0, none⟩), undef, undef, undef, undef, undef, undef, undef, undef, undef, undef, undef, undef, undef, undef, undef] := by kernel_rfl
  rw [e]
  apply wpS_seq
  apply wpS_region
  simp [wpOpsS, go_sem, recoverD, hu, Exit.thenS, hta]
  refine wpS_of_wp ?_
  go_hide hQ
  go_wp2
  subst hQ
  cases c₀
  simp_all [bodyPostS, results, Tryz.results153]
set_option maxRecDepth 100000 in
set_option maxHeartbeats 1000000 in
/-- compute, where the function that it calls hands back a result. -/
theorem rtcompute_ok (F : FuncId) (caps : Array Value) (s n : Nat) (Pr : Rat → Prop) (w : World) (eg : ∀ args w, (callFunc F args).run Tryz.prog w = .ok (.enter F args) w)
    (hv : ∀ W, Below w.heap.size w W → Calls Tryz.prog 130 #[.slice (some ⟨s, 0, none⟩) n n, .func (.func 154) #[] #[]] W (BoolOk false W))
    (h : ∀ W, Below w.heap.size w W → Calls Tryz.prog F caps W (rtIs Pr W)) :
    Calls Tryz.prog 100 #[.func (.func F) #[] caps, .slice (some ⟨s, 0, none⟩) n n] w (rtOk Pr w) := by
  have hmf : ∀ (fn : Fn) (first cap : Array Value) (w : World), (Instr.makeFunc fn first cap).run Tryz.prog w = .ok (.func fn first cap) w := fun _ _ _ _ => rfl
  have hB : Below w.heap.size w w := Below.refl _ _
  go_enter_defers Tryz.func100, Tryz.ntmps100
  go_wp2_with fail
  refine world_cut (fun X => Below w.heap.size w X ∧ Row X w.heap.size (.cells #[.string ⟨#[]⟩, .string ⟨#[]⟩] 26) ∧ Row X (w.heap.size + 1) (.cells #[.int .i64 0] 31)) ⟨C5_hB, C4, C4⟩ ?_
  clear hB
  rintro W1 ⟨hB, rp, rq⟩
  refine (hv _ hB).mono ?_
  rintro e W2 ⟨rfl, h1⟩
  replace hB := hB.trans (h1.mono hB.size)
  replace rp := Row.below rp h1
  replace rq := Row.below rq h1
  clear h1
  go_wp2_with fail
  refine (echeck_true _).mono ?_
  rintro e W3 ⟨rfl, h1⟩
  replace hB := hB.trans (h1.mono hB.size)
  replace rp := Row.below rp h1
  replace rq := Row.below rq h1
  clear h1
  have h' := h _ hB
  clear h hv
  go_wp2_with (go_at_fn F; refine h'.mono ?_; rintro e W4 ⟨a, pa, rfl, h1⟩; replace hB := hB.trans (h1.mono hB.size); replace rp := Row.below rp h1; replace rq := Row.below rq h1; obtain ⟨sp, cp0, cp1, fp0, fp1⟩ := Row.cells2 rp; obtain ⟨sq, cq, fq⟩ := Row.cells1 rq; unfold Q)
  refine leaves_cons (f := 153) (args := #[.pointer (some ⟨w.heap.size, 0, none⟩), .pointer (some ⟨w.heap.size + 1, 0, none⟩)]) (by simp) (by simp [go_sem]) ?_
  refine (rtidle _ _ _).mono ?_
  rintro e u' w'' ⟨rfl, rfl, hw⟩
  have sB := hB.size
  obtain ⟨hB', rp', rq'⟩ : Below w.heap.size w w'' ∧ Row w'' w.heap.size (.cells #[.string (S a.num), .string (S (a.den : Int))] 26) ∧ Row w'' (w.heap.size + 1) (.cells #[.int .i64 0] 31) := by
    rw [hw]
    exact ⟨C5_hB, C6_rp, C6_rq⟩
  clear hw
  obtain ⟨tp, dp0, dp1, _gp0, _gp1⟩ := Row.cells2 rp'
  obtain ⟨tq, dq, _gq⟩ := Row.cells1 rq'
  simp only [Leaves, settle]
  exact ⟨.tuple #[.agg #[.string (S a.num), .string (S (a.den : Int))], .int .i64 0], by simp [results, Tryz.results100, go_sem, dp0, dp1, dq], a, pa, rfl, hB'⟩
end Go.Proofs.YtngohpgkceedeaaGreatDoor
