/-
  Package enclosure: check, and compute with its deferred closure: a result is handed back; a panic with errFails becomes ErrEnclosure.
-/
import Derived.Test.YtngohpgkceedeaaGreatDoorQTool
import Derived.Test.YtngohpgkceedeaaGreatDoorQPlain6
import Derived.Test.YtngohpgkceedeaaGreatDoorEIs
import Derived.Defers
import Derived.Recover
import Derived.WalkMore
import Derived.Test.YtngohpgkceedeaaGreatDoorChains
namespace Go.Proofs.YtngohpgkceedeaaGreatDoor
open Go Go.RowKit Go.Lib Go.Shelf

/-- An interval's value in the program. -/
def I (a : Iv) : Value := .agg #[.string (S a.lo.num), .string (S (a.lo.den : Int)), .string (S a.hi.num), .string (S (a.hi.den : Int))]
/-- The value of an interface that holds an error of errors.New's make. -/
abbrev errV (a : Addr) : Value := .iface 264 (.pointer (some a))
/-- What the listed variables hold: as Env, and errFails. -/
structure EnvE (a : Addr) (w : World) : Prop where
  env : Env w
  fails : w.cell? ⟨0, 0, none⟩ = some (.iface 264 (.pointer (some a)))
theorem EnvE.below {a : Addr} {w w' : World} (h : EnvE a w) (hb : Below w.heap.size w w') : EnvE a w' := ⟨h.env.below hb, (hb.cell (World.block_lt_of_cell? _ _ h.fails)).trans h.fails⟩
def FailsOk (a : Addr) (w : World) (e : Ending) (w' : World) : Prop := e = .panicked [{ v := .iface 264 (.pointer (some a)), recovered := false }] ∧ Below w.heap.size w w'
set_option maxRecDepth 100000 in
theorem echeck_true (w : World) : Calls Tryz.prog 105 #[.bool true] w (UnitOk w) := by
  go_enter Tryz.func105, Tryz.ntmps105
  go_wp2
  go_end0
  exact ⟨rfl, Below.refl _ _⟩
set_option maxRecDepth 100000 in
theorem echeck_false {a : Addr} (w : World) (he : EnvE a w) : Calls Tryz.prog 105 #[.bool false] w (FailsOk a w) := by
  have hg := he.fails
  go_enter Tryz.func105, Tryz.ntmps105
  go_wp2
  exact ⟨rfl, rfl, Below.refl _ _⟩
theorem assert_err (v : Value) (w : World) : (Instr.typeAssert (.iface 264 v) 20 147 true).run Tryz.prog w = .ok (.tuple #[.iface 264 v, .bool true]) w := run_typeAssert_hasB Tryz.underlying147 (by kernel_rfl) v _ w
theorem assert_nil (w : World) : (Instr.typeAssert .nilIface 20 147 true).run Tryz.prog w = .ok (.tuple #[.nilIface, .bool false]) w := by kernel_rfl

/-! compute[yardstick/api.Interval] -/
def ivIs (Pr : Iv → Prop) (w : World) (e : Ending) (w' : World) : Prop := ∃ a, Pr a ∧ e = .returned (I a) ∧ Below w.heap.size w w'
def ivOk (Pr : Iv → Prop) (w : World) (e : Ending) (w' : World) : Prop := ∃ a, Pr a ∧ e = .returned (.tuple #[I a, .int .i64 0]) ∧ Below w.heap.size w w'
def ivErr (w : World) (e : Ending) (w' : World) : Prop := e = .returned (.tuple #[.agg #[.string ⟨#[]⟩, .string ⟨#[]⟩, .string ⟨#[]⟩, .string ⟨#[]⟩], .int .i64 50]) ∧ Below w.heap.size w w'
set_option maxRecDepth 100000 in
set_option maxHeartbeats 1000000 in
theorem ivcatch (bp bq : Nat) (a : Addr) (older : List PanicEntry) (w : World) (v0 v1 v2 v3 x : Value) (hne : bp ≠ bq) (hp : Row w bp (.cells #[v0, v1, v2, v3] 29)) (hq : Row w bq (.cells #[x] 31)) (he : EnvE a w) :
    CallsD Tryz.prog 128 #[.pointer (some ⟨bp, 0, none⟩), .pointer (some ⟨bq, 0, none⟩)] (.panicking ({ v := .iface 264 (.pointer (some a)), recovered := false } :: older)) w fun e u' w' =>
      e = .returned (.tuple #[]) ∧ u' = .panicking ({ v := .iface 264 (.pointer (some a)), recovered := true } :: older) ∧ Row w' bp (.cells #[.string ⟨#[]⟩, .string ⟨#[]⟩, .string ⟨#[]⟩, .string ⟨#[]⟩] 29) ∧ Row w' bq (.cells #[.int .i64 50] 31) ∧ ∀ n, n ≤ bp → n ≤ bq → Below n w w' := by
  have hta := assert_err
  have hg := he.fails
  obtain ⟨sp, cp0, cp1, cp2, cp3, fp0, fp1, fp2, fp3⟩ := Row.cells4 hp
  obtain ⟨sq, cq, fq⟩ := Row.cells1 hq
  have hne' : bq ≠ bp := fun h => hne h.symm
  have np : bp ≠ w.heap.size := by omega
  have nq : bq ≠ w.heap.size := by omega
  refine callsD_of_wpS Tryz.func128 rfl fun c₀ cs hu => ?_
  have e : (#[.pointer (some ⟨bp, 0, none⟩), .pointer (some ⟨bq, 0, none⟩)] ++ Array.replicate (Tryz.f128.ntmps - (#[.pointer (some ⟨bp, 0, none⟩), .pointer (some ⟨bq, 0, none⟩)] : Array Value).size) undef : Array Value) = #[.pointer (some ⟨bp, 0, none⟩), .pointer (some ⟨bq, 0, none⟩), undef, undef, undef, undef, undef, undef, undef, undef, undef, undef, undef, undef, undef, undef, undef] := by kernel_rfl
  rw [e]
  apply wpS_seq
  apply wpS_region
  simp [wpOpsS, go_sem, recoverD, hu, Exit.thenS, hta]
  refine wpS_of_wp ?_
  go_hide hQ
  go_wp2_with fail
  refine (is_same a _).mono ?_
  rintro e' w' ⟨rfl, rfl⟩
  go_wp2
  subst hQ
  refine ⟨rfl, _, rfl, .tuple #[], by simp [results, Tryz.results128], rfl, rfl, ?_, ?_, fun n h1 h2 => ?_⟩
  · repeat (first | (with_reducible exact hp) | (with_reducible exact row_new' (by first | omega | (simp; done) | (simp; omega))) | (with_reducible refine Row.drew ?_) | (with_reducible refine Row.alloc ?_ _) | (with_reducible apply Row.set4) | (with_reducible apply Row.set4a) | (with_reducible apply Row.set4b) | (with_reducible apply Row.set2) | (with_reducible apply Row.set1) | (with_reducible refine Row.set_other ?_ _ (by first | omega | (simp; done) | (simp; omega))))
  · repeat (first | (with_reducible exact hq) | (with_reducible exact row_new' (by first | omega | (simp; done) | (simp; omega))) | (with_reducible refine Row.drew ?_) | (with_reducible refine Row.alloc ?_ _) | (with_reducible apply Row.set4) | (with_reducible apply Row.set4a) | (with_reducible apply Row.set4b) | (with_reducible apply Row.set2) | (with_reducible apply Row.set1) | (with_reducible refine Row.set_other ?_ _ (by first | omega | (simp; done) | (simp; omega))))
  · repeat (first | (with_reducible exact Below.refl _ _) | (with_reducible refine Below.drew ?_) | (with_reducible refine Below.alloc ?_ (by first | omega | (simp; done) | (simp; omega)) _) | (with_reducible refine Below.setCell ?_ (by first | omega | (simp; done) | (simp; omega)) _))
set_option maxRecDepth 100000 in
set_option maxHeartbeats 1000000 in
theorem ividle (bp bq : Nat) (w : World) :
    CallsD Tryz.prog 128 #[.pointer (some ⟨bp, 0, none⟩), .pointer (some ⟨bq, 0, none⟩)] .returning w fun e u' w' => e = .returned (.tuple #[]) ∧ u' = .returning ∧ w' = w := by
  have hta := assert_nil
  refine callsD_of_wpS Tryz.func128 rfl fun c₀ cs hu => ?_
  have e : (#[.pointer (some ⟨bp, 0, none⟩), .pointer (some ⟨bq, 0, none⟩)] ++ Array.replicate (Tryz.f128.ntmps - (#[.pointer (some ⟨bp, 0, none⟩), .pointer (some ⟨bq, 0, none⟩)] : Array Value).size) undef : Array Value) = #[.pointer (some ⟨bp, 0, none⟩), .pointer (some ⟨bq, 0, none⟩), undef, undef, undef, undef, undef, undef, undef, undef, undef, undef, undef, undef, undef, undef, undef] := by kernel_rfl
  rw [e]
  apply wpS_seq
  apply wpS_region
  simp [wpOpsS, go_sem, recoverD, hu, Exit.thenS, hta]
  refine wpS_of_wp ?_
  go_hide hQ
  go_wp2
  subst hQ
  cases c₀
  simp_all [bodyPostS, results, Tryz.results128]
set_option maxRecDepth 100000 in
set_option maxHeartbeats 1000000 in
/-- compute, where the function that it calls hands back a result. -/
theorem ivcompute_ok (F : FuncId) (caps : Array Value) (s n : Nat) (Pr : Iv → Prop) (w : World) (eg : ∀ args w, (callFunc F args).run Tryz.prog w = .ok (.enter F args) w)
    (hv : ∀ W, Below w.heap.size w W → Calls Tryz.prog 130 #[.slice (some ⟨s, 0, none⟩) n n, .func (.func 131) #[] #[]] W (BoolOk false W))
    (h : ∀ W, Below w.heap.size w W → Calls Tryz.prog F caps W (ivIs Pr W)) :
    Calls Tryz.prog 61 #[.func (.func F) #[] caps, .slice (some ⟨s, 0, none⟩) n n] w (ivOk Pr w) := by
  have hmf : ∀ (fn : Fn) (first cap : Array Value) (w : World), (Instr.makeFunc fn first cap).run Tryz.prog w = .ok (.func fn first cap) w := fun _ _ _ _ => rfl
  have hB : Below w.heap.size w w := Below.refl _ _
  go_enter_defers Tryz.func61, Tryz.ntmps61
  go_wp2_with fail
  refine world_cut (fun X => Below w.heap.size w X ∧ Row X w.heap.size (.cells #[.string ⟨#[]⟩, .string ⟨#[]⟩, .string ⟨#[]⟩, .string ⟨#[]⟩] 29) ∧ Row X (w.heap.size + 1) (.cells #[.int .i64 0] 31)) ⟨C5_hB, C4, C4⟩ ?_
  clear hB
  rintro W1 ⟨hB, rp, rq⟩
  refine (hv _ hB).mono ?_
  rintro e W2 ⟨rfl, h1⟩
  replace hB := hB.trans (h1.mono hB.size)
  replace rp := Row.below rp h1
  replace rq := Row.below rq h1
  clear h1
  go_wp2_with fail
  refine (echeck_true _).mono ?_
  rintro e W3 ⟨rfl, h1⟩
  replace hB := hB.trans (h1.mono hB.size)
  replace rp := Row.below rp h1
  replace rq := Row.below rq h1
  clear h1
  have h' := h _ hB
  clear h hv
  go_wp2_with (go_at_fn F; refine h'.mono ?_; rintro e W4 ⟨a, pa, rfl, h1⟩; replace hB := hB.trans (h1.mono hB.size); replace rp := Row.below rp h1; replace rq := Row.below rq h1; obtain ⟨sp, cp0, cp1, cp2, cp3, fp0, fp1, fp2, fp3⟩ := Row.cells4 rp; obtain ⟨sq, cq, fq⟩ := Row.cells1 rq; unfold I)
  refine leaves_cons (f := 128) (args := #[.pointer (some ⟨w.heap.size, 0, none⟩), .pointer (some ⟨w.heap.size + 1, 0, none⟩)]) (by simp) (by simp [go_sem]) ?_
  refine (ividle _ _ _).mono ?_
  rintro e u' w'' ⟨rfl, rfl, hw⟩
  have sB := hB.size
  obtain ⟨hB', rp', rq'⟩ : Below w.heap.size w w'' ∧ Row w'' w.heap.size (.cells #[.string (S a.lo.num), .string (S (a.lo.den : Int)), .string (S a.hi.num), .string (S (a.hi.den : Int))] 29) ∧ Row w'' (w.heap.size + 1) (.cells #[.int .i64 0] 31) := by
    rw [hw]
    exact ⟨C5_hB, C6_rp, C6_rq⟩
  clear hw
  obtain ⟨tp, dp0, dp1, dp2, dp3, _gp0, _gp1, _gp2, _gp3⟩ := Row.cells4 rp'
  obtain ⟨tq, dq, _gq⟩ := Row.cells1 rq'
  simp only [Leaves, settle]
  exact ⟨.tuple #[.agg #[.string (S a.lo.num), .string (S (a.lo.den : Int)), .string (S a.hi.num), .string (S (a.hi.den : Int))], .int .i64 0], by simp [results, Tryz.results61, go_sem, dp0, dp1, dp2, dp3, dq], a, pa, rfl, hB'⟩
set_option maxRecDepth 100000 in
set_option maxHeartbeats 1000000 in
/-- compute, where the function that it calls panics with errFails. -/
theorem ivcompute_err (F : FuncId) (caps : Array Value) (s n : Nat) (a : Addr) (w : World) (he : EnvE a w) (eg : ∀ args w, (callFunc F args).run Tryz.prog w = .ok (.enter F args) w)
    (hv : ∀ W, Below w.heap.size w W → Calls Tryz.prog 130 #[.slice (some ⟨s, 0, none⟩) n n, .func (.func 131) #[] #[]] W (BoolOk false W))
    (h : ∀ W, Below w.heap.size w W → Calls Tryz.prog F caps W (FailsOk a W)) :
    Calls Tryz.prog 61 #[.func (.func F) #[] caps, .slice (some ⟨s, 0, none⟩) n n] w (ivErr w) := by
  have hmf : ∀ (fn : Fn) (first cap : Array Value) (w : World), (Instr.makeFunc fn first cap).run Tryz.prog w = .ok (.func fn first cap) w := fun _ _ _ _ => rfl
  have hB : Below w.heap.size w w := Below.refl _ _
  go_enter_defers Tryz.func61, Tryz.ntmps61
  go_wp2_with fail
  refine world_cut (fun X => Below w.heap.size w X ∧ Row X w.heap.size (.cells #[.string ⟨#[]⟩, .string ⟨#[]⟩, .string ⟨#[]⟩, .string ⟨#[]⟩] 29) ∧ Row X (w.heap.size + 1) (.cells #[.int .i64 0] 31)) ⟨C5_hB, C4, C4⟩ ?_
  clear hB
  rintro W1 ⟨hB, rp, rq⟩
  refine (hv _ hB).mono ?_
  rintro e W2 ⟨rfl, h1⟩
  replace hB := hB.trans (h1.mono hB.size)
  replace rp := Row.below rp h1
  replace rq := Row.below rq h1
  clear h1
  go_wp2_with fail
  refine (echeck_true _).mono ?_
  rintro e W3 ⟨rfl, h1⟩
  replace hB := hB.trans (h1.mono hB.size)
  replace rp := Row.below rp h1
  replace rq := Row.below rq h1
  clear h1
  have h' := h _ hB
  clear h hv
  go_wp2_with (go_at_fn F; refine h'.mono ?_; rintro e W4 ⟨rfl, h1⟩; replace hB := hB.trans (h1.mono hB.size); replace rp := Row.below rp h1; replace rq := Row.below rq h1)
  refine leaves_cons (f := 128) (args := #[.pointer (some ⟨w.heap.size, 0, none⟩), .pointer (some ⟨w.heap.size + 1, 0, none⟩)]) (by simp) (by simp [go_sem]) ?_
  refine (ivcatch _ _ a [] _ _ _ _ _ _ (by omega) rp rq (he.below hB)).mono ?_
  rintro e u' w'' ⟨rfl, rfl, rp', rq', hb⟩
  replace hB := hB.trans (hb w.heap.size (by omega) (by omega))
  obtain ⟨tp, dp0, dp1, dp2, dp3, _gp0, _gp1, _gp2, _gp3⟩ := Row.cells4 rp'
  obtain ⟨tq, dq, _gq⟩ := Row.cells1 rq'
  simp only [Leaves, settle, List.dropWhile_nil]
  exact ⟨.tuple #[.agg #[.string ⟨#[]⟩, .string ⟨#[]⟩, .string ⟨#[]⟩, .string ⟨#[]⟩], .int .i64 50], by simp [results, Tryz.results61, go_sem, dp0, dp1, dp2, dp3, dq], rfl, hB⟩

/-! compute[yardstick/api.Ratio] -/
def rtIs (Pr : Rat → Prop) (w : World) (e : Ending) (w' : World) : Prop := ∃ a, Pr a ∧ e = .returned (Q a) ∧ Below w.heap.size w w'
def rtOk (Pr : Rat → Prop) (w : World) (e : Ending) (w' : World) : Prop := ∃ a, Pr a ∧ e = .returned (.tuple #[Q a, .int .i64 0]) ∧ Below w.heap.size w w'
def rtErr (w : World) (e : Ending) (w' : World) : Prop := e = .returned (.tuple #[.agg #[.string ⟨#[]⟩, .string ⟨#[]⟩], .int .i64 50]) ∧ Below w.heap.size w w'
set_option maxRecDepth 100000 in
set_option maxHeartbeats 1000000 in
theorem rtcatch (bp bq : Nat) (a : Addr) (older : List PanicEntry) (w : World) (v0 v1 x : Value) (hne : bp ≠ bq) (hp : Row w bp (.cells #[v0, v1] 26)) (hq : Row w bq (.cells #[x] 31)) (he : EnvE a w) :
    CallsD Tryz.prog 153 #[.pointer (some ⟨bp, 0, none⟩), .pointer (some ⟨bq, 0, none⟩)] (.panicking ({ v := .iface 264 (.pointer (some a)), recovered := false } :: older)) w fun e u' w' =>
      e = .returned (.tuple #[]) ∧ u' = .panicking ({ v := .iface 264 (.pointer (some a)), recovered := true } :: older) ∧ Row w' bp (.cells #[.string ⟨#[]⟩, .string ⟨#[]⟩] 26) ∧ Row w' bq (.cells #[.int .i64 50] 31) ∧ ∀ n, n ≤ bp → n ≤ bq → Below n w w' := by
  have hta := assert_err
  have hg := he.fails
  obtain ⟨sp, cp0, cp1, fp0, fp1⟩ := Row.cells2 hp
  obtain ⟨sq, cq, fq⟩ := Row.cells1 hq
  have hne' : bq ≠ bp := fun h => hne h.symm
  have np : bp ≠ w.heap.size := by omega
  have nq : bq ≠ w.heap.size := by omega
  refine callsD_of_wpS Tryz.func153 rfl fun c₀ cs hu => ?_
  have e : (#[.pointer (some ⟨bp, 0, none⟩), .pointer (some ⟨bq, 0, none⟩)] ++ Array.replicate (Tryz.f153.ntmps - (#[.pointer (some ⟨bp, 0, none⟩), .pointer (some ⟨bq, 0, none⟩)] : Array Value).size) undef : Array Value) = #[.pointer (some ⟨bp, 0, none⟩), .pointer (some ⟨bq, 0, none⟩), undef, undef, undef, undef, undef, undef, undef, undef, undef, undef, undef, undef, undef, undef, undef] := by kernel_rfl
  rw [e]
  apply wpS_seq
  apply wpS_region
  simp [wpOpsS, go_sem, recoverD, hu, Exit.thenS, hta]
  refine wpS_of_wp ?_
  go_hide hQ
  go_wp2_with fail
  refine (is_same a _).mono ?_
  rintro e' w' ⟨rfl, rfl⟩
  go_wp2
  subst hQ
  refine ⟨rfl, _, rfl, .tuple #[], by simp [results, Tryz.results153], rfl, rfl, ?_, ?_, fun n h1 h2 => ?_⟩
  · repeat (first | (with_reducible exact hp) | (with_reducible exact row_new' (by first | omega | (simp; done) | (simp; omega))) | (with_reducible refine Row.drew ?_) | (with_reducible refine Row.alloc ?_ _) | (with_reducible apply Row.set4) | (with_reducible apply Row.set4a) | (with_reducible apply Row.set4b) | (with_reducible apply Row.set2) | (with_reducible apply Row.set1) | (with_reducible refine Row.set_other ?_ _ (by first | omega | (simp; done) | (simp; omega))))
  · repeat (first | (with_reducible exact hq) | (with_reducible exact row_new' (by first | omega | (simp; done) | (simp; omega))) | (with_reducible refine Row.drew ?_) | (with_reducible refine Row.alloc ?_ _) | (with_reducible apply Row.set4) | (with_reducible apply Row.set4a) | (with_reducible apply Row.set4b) | (with_reducible apply Row.set2) | (with_reducible apply Row.set1) | (with_reducible refine Row.set_other ?_ _ (by first | omega | (simp; done) | (simp; omega))))
  · repeat (first | (with_reducible exact Below.refl _ _) | (with_reducible refine Below.drew ?_) | (with_reducible refine Below.alloc ?_ (by first | omega | (simp; done) | (simp; omega)) _) | (with_reducible refine Below.setCell ?_ (by first | omega | (simp; done) | (simp; omega)) _))
set_option maxRecDepth 100000 in
set_option maxHeartbeats 1000000 in
theorem rtidle (bp bq : Nat) (w : World) :
    CallsD Tryz.prog 153 #[.pointer (some ⟨bp, 0, none⟩), .pointer (some ⟨bq, 0, none⟩)] .returning w fun e u' w' => e = .returned (.tuple #[]) ∧ u' = .returning ∧ w' = w := by
  have hta := assert_nil
  refine callsD_of_wpS Tryz.func153 rfl fun c₀ cs hu => ?_
  have e : (#[.pointer (some ⟨bp, 0, none⟩), .pointer (some ⟨bq, 0, none⟩)] ++ Array.replicate (Tryz.f153.ntmps - (#[.pointer (some ⟨bp, 0, none⟩), .pointer (some ⟨bq, 0, none⟩)] : Array Value).size) undef : Array Value) = #[.pointer (some ⟨bp, 0, none⟩), .pointer (some ⟨bq, 0, none⟩), undef, undef, undef, undef, undef, undef, undef, undef, undef, undef, undef, undef, undef, undef, undef] := by kernel_rfl
  rw [e]
  apply wpS_seq
  apply wpS_region
  simp [wpOpsS, go_sem, recoverD, hu, Exit.thenS, hta]
  refine wpS_of_wp ?_
  go_hide hQ
  go_wp2
  subst hQ
  cases c₀
  simp_all [bodyPostS, results, Tryz.results153]
set_option maxRecDepth 100000 in
set_option maxHeartbeats 1000000 in
/-- compute, where the function that it calls hands back a result. -/
theorem rtcompute_ok (F : FuncId) (caps : Array Value) (s n : Nat) (Pr : Rat → Prop) (w : World) (eg : ∀ args w, (callFunc F args).run Tryz.prog w = .ok (.enter F args) w)
    (hv : ∀ W, Below w.heap.size w W → Calls Tryz.prog 130 #[.slice (some ⟨s, 0, none⟩) n n, .func (.func 154) #[] #[]] W (BoolOk false W))
    (h : ∀ W, Below w.heap.size w W → Calls Tryz.prog F caps W (rtIs Pr W)) :
    Calls Tryz.prog 100 #[.func (.func F) #[] caps, .slice (some ⟨s, 0, none⟩) n n] w (rtOk Pr w) := by
  have hmf : ∀ (fn : Fn) (first cap : Array Value) (w : World), (Instr.makeFunc fn first cap).run Tryz.prog w = .ok (.func fn first cap) w := fun _ _ _ _ => rfl
  have hB : Below w.heap.size w w := Below.refl _ _
  go_enter_defers Tryz.func100, Tryz.ntmps100
  go_wp2_with fail
  refine world_cut (fun X => Below w.heap.size w X ∧ Row X w.heap.size (.cells #[.string ⟨#[]⟩, .string ⟨#[]⟩] 26) ∧ Row X (w.heap.size + 1) (.cells #[.int .i64 0] 31)) ⟨C5_hB, C4, C4⟩ ?_
  clear hB
  rintro W1 ⟨hB, rp, rq⟩
  refine (hv _ hB).mono ?_
  rintro e W2 ⟨rfl, h1⟩
  replace hB := hB.trans (h1.mono hB.size)
  replace rp := Row.below rp h1
  replace rq := Row.below rq h1
  clear h1
  go_wp2_with fail
  refine (echeck_true _).mono ?_
  rintro e W3 ⟨rfl, h1⟩
  replace hB := hB.trans (h1.mono hB.size)
  replace rp := Row.below rp h1
  replace rq := Row.below rq h1
  clear h1
  have h' := h _ hB
  clear h hv
  go_wp2_with (go_at_fn F; refine h'.mono ?_; rintro e W4 ⟨a, pa, rfl, h1⟩; replace hB := hB.trans (h1.mono hB.size); replace rp := Row.below rp h1; replace rq := Row.below rq h1; obtain ⟨sp, cp0, cp1, fp0, fp1⟩ := Row.cells2 rp; obtain ⟨sq, cq, fq⟩ := Row.cells1 rq; unfold Q)
  refine leaves_cons (f := 153) (args := #[.pointer (some ⟨w.heap.size, 0, none⟩), .pointer (some ⟨w.heap.size + 1, 0, none⟩)]) (by simp) (by simp [go_sem]) ?_
  refine (rtidle _ _ _).mono ?_
  rintro e u' w'' ⟨rfl, rfl, hw⟩
  have sB := hB.size
  obtain ⟨hB', rp', rq'⟩ : Below w.heap.size w w'' ∧ Row w'' w.heap.size (.cells #[.string (S a.num), .string (S (a.den : Int))] 26) ∧ Row w'' (w.heap.size + 1) (.cells #[.int .i64 0] 31) := by
    rw [hw]
    exact ⟨C5_hB, C6_rp, C6_rq⟩
  clear hw
  obtain ⟨tp, dp0, dp1, _gp0, _gp1⟩ := Row.cells2 rp'
  obtain ⟨tq, dq, _gq⟩ := Row.cells1 rq'
  simp only [Leaves, settle]
  exact ⟨.tuple #[.agg #[.string (S a.num), .string (S (a.den : Int))], .int .i64 0], by simp [results, Tryz.results100, go_sem, dp0, dp1, dq], a, pa, rfl, hB'⟩
set_option maxRecDepth 100000 in
set_option maxHeartbeats 1000000 in
/-- compute, where the function that it calls panics with errFails. -/
theorem rtcompute_err (F : FuncId) (caps : Array Value) (s n : Nat) (a : Addr) (w : World) (he : EnvE a w) (eg : ∀ args w, (callFunc F args).run Tryz.prog w = .ok (.enter F args) w)
    (hv : ∀ W, Below w.heap.size w W → Calls Tryz.prog 130 #[.slice (some ⟨s, 0, none⟩) n n, .func (.func 154) #[] #[]] W (BoolOk false W))
    (h : ∀ W, Below w.heap.size w W → Calls Tryz.prog F caps W (FailsOk a W)) :
    Calls Tryz.prog 100 #[.func (.func F) #[] caps, .slice (some ⟨s, 0, none⟩) n n] w (rtErr w) := by
  have hmf : ∀ (fn : Fn) (first cap : Array Value) (w : World), (Instr.makeFunc fn first cap).run Tryz.prog w = .ok (.func fn first cap) w := fun _ _ _ _ => rfl
  have hB : Below w.heap.size w w := Below.refl _ _
  go_enter_defers Tryz.func100, Tryz.ntmps100
  go_wp2_with fail
  refine world_cut (fun X => Below w.heap.size w X ∧ Row X w.heap.size (.cells #[.string ⟨#[]⟩, .string ⟨#[]⟩] 26) ∧ Row X (w.heap.size + 1) (.cells #[.int .i64 0] 31)) ⟨C5_hB, C4, C4⟩ ?_
  clear hB
  rintro W1 ⟨hB, rp, rq⟩
  refine (hv _ hB).mono ?_
  rintro e W2 ⟨rfl, h1⟩
  replace hB := hB.trans (h1.mono hB.size)
  replace rp := Row.below rp h1
  replace rq := Row.below rq h1
  clear h1
  go_wp2_with fail
  refine (echeck_true _).mono ?_
  rintro e W3 ⟨rfl, h1⟩
  replace hB := hB.trans (h1.mono hB.size)
  replace rp := Row.below rp h1
  replace rq := Row.below rq h1
  clear h1
  have h' := h _ hB
  clear h hv
  go_wp2_with (go_at_fn F; refine h'.mono ?_; rintro e W4 ⟨rfl, h1⟩; replace hB := hB.trans (h1.mono hB.size); replace rp := Row.below rp h1; replace rq := Row.below rq h1)
  refine leaves_cons (f := 153) (args := #[.pointer (some ⟨w.heap.size, 0, none⟩), .pointer (some ⟨w.heap.size + 1, 0, none⟩)]) (by simp) (by simp [go_sem]) ?_
  refine (rtcatch _ _ a [] _ _ _ _ (by omega) rp rq (he.below hB)).mono ?_
  rintro e u' w'' ⟨rfl, rfl, rp', rq', hb⟩
  replace hB := hB.trans (hb w.heap.size (by omega) (by omega))
  obtain ⟨tp, dp0, dp1, _gp0, _gp1⟩ := Row.cells2 rp'
  obtain ⟨tq, dq, _gq⟩ := Row.cells1 rq'
  simp only [Leaves, settle, List.dropWhile_nil]
  exact ⟨.tuple #[.agg #[.string ⟨#[]⟩, .string ⟨#[]⟩], .int .i64 50], by simp [results, Tryz.results100, go_sem, dp0, dp1, dq], rfl, hB⟩
end Go.Proofs.YtngohpgkceedeaaGreatDoor
