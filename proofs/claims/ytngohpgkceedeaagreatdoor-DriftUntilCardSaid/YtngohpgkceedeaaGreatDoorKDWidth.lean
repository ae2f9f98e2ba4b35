/-
  enclosure.Width at the zero interval: an error.
-/
import Derived.Test.YtngohpgkceedeaaGreatDoorKEOps
import Derived.Test.YtngohpgkceedeaaGreatDoorKFromInt
set_option linter.unusedSimpArgs false
set_option linter.unusedVariables false
namespace Go.Proofs.YtngohpgkceedeaaGreatDoor
open Go Go.RowKit Go.Lib Go.Shelf

set_option maxRecDepth 100000 in
set_option maxHeartbeats 4000000 in
theorem rtbad_zero (w : World) : Calls Tryz.prog 154 #[.agg #[.string ⟨#[]⟩, .string ⟨#[]⟩, .string ⟨#[]⟩, .string ⟨#[]⟩]] w (BoolOk true w) := by
  have hB : Below w.heap.size w w := Below.refl _ _
  have h1 := fun W => evalid_zero W
  go_enter Tryz.func154, Tryz.ntmps154
  go_wp2_with fail
  have sB := hB.size
  refine world_cut (fun X => Below w.heap.size w X ∧ Row X w.heap.size (.cells #[.string ⟨#[]⟩, .string ⟨#[]⟩, .string ⟨#[]⟩, .string ⟨#[]⟩] 29)) ⟨BW, RWh⟩ ?_
  clear hB sB
  rintro V1 ⟨hB, ra⟩
  obtain ⟨sa, ca0, ca1, ca2, ca3, fa0, fa1, fa2, fa3⟩ := Row.cells4 ra
  refine (h1 _).mono ?_
  rintro e W2 ⟨rfl, h1⟩
  clear sa ca0 ca1 ca2 ca3 fa0 fa1 fa2 fa3
  replace hB := hB.trans (h1.mono hB.size)
  replace ra := Row.below ra h1
  clear h1
  obtain ⟨sa, ca0, ca1, ca2, ca3, fa0, fa1, fa2, fa3⟩ := Row.cells4 ra
  go_wp2
  go_ret
  exact ⟨rfl, hB⟩
set_option maxRecDepth 100000 in
set_option maxHeartbeats 4000000 in
theorem index1_zero (G : FuncId) (eg : ∀ args w, (callFunc G args).run Tryz.prog w = .ok (.enter G args) w) (s : Nat) (w : World) (r0 : Row w s (.cells #[.string ⟨#[]⟩, .string ⟨#[]⟩, .string ⟨#[]⟩, .string ⟨#[]⟩] 29))
    (ha : ∀ W, Below w.heap.size w W → Calls Tryz.prog G #[.agg #[.string ⟨#[]⟩, .string ⟨#[]⟩, .string ⟨#[]⟩, .string ⟨#[]⟩]] W (BoolOk true W)) :
    Calls Tryz.prog 183 #[.slice (some ⟨s, 0, none⟩) 1 1, .func (.func G) #[] #[]] w fun e w' => e = .returned (.int .i64 0) ∧ Below w.heap.size w w' := by
  go_enter Tryz.func183, Tryz.ntmps183
  go_wp2
  go_loopw [8] (fun iv wr => iv = .int .i64 0 ∧ Row wr s (.cells #[.string ⟨#[]⟩, .string ⟨#[]⟩, .string ⟨#[]⟩, .string ⟨#[]⟩] 29) ∧ Below w.heap.size w wr) (fun iv _ => 1 - (RowKit.intOf iv).toNat)
  case atStart => exact ⟨rfl, r0, Below.refl _ _⟩
  case round =>
    obtain ⟨rfl, hr, hB'⟩ := hrel
    obtain ⟨s0, c0, c1, c2, c3, f0, f1, f2, f3⟩ := Row.cells4 hr
    go_wp2_with (go_at_fn G; refine (ha _ hB').mono ?_; rintro e W1 ⟨rfl, h1⟩)
    go_ret
    exact ⟨rfl, hB'.trans (h1.mono hB'.size)⟩
set_option maxRecDepth 100000 in
set_option maxHeartbeats 4000000 in
theorem contains1_zero (G : FuncId) (eg : ∀ args w, (callFunc G args).run Tryz.prog w = .ok (.enter G args) w) (s : Nat) (w : World) (r0 : Row w s (.cells #[.string ⟨#[]⟩, .string ⟨#[]⟩, .string ⟨#[]⟩, .string ⟨#[]⟩] 29))
    (ha : ∀ W, Below w.heap.size w W → Calls Tryz.prog G #[.agg #[.string ⟨#[]⟩, .string ⟨#[]⟩, .string ⟨#[]⟩, .string ⟨#[]⟩]] W (BoolOk true W)) :
    Calls Tryz.prog 130 #[.slice (some ⟨s, 0, none⟩) 1 1, .func (.func G) #[] #[]] w (BoolOk true w) := by
  have H := index1_zero G eg s w r0 ha
  go_enter Tryz.func130, Tryz.ntmps130
  go_wp2_with fail
  refine H.mono ?_
  rintro e W ⟨rfl, h1⟩
  go_wp2
  go_ret
  exact ⟨rfl, h1⟩
set_option maxRecDepth 100000 in
set_option maxHeartbeats 4000000 in
theorem rtcompute_bad (F : FuncId) (caps : Array Value) (s n : Nat) (a : Addr) (w : World) (he : EnvE a w) (eg : ∀ args w, (callFunc F args).run Tryz.prog w = .ok (.enter F args) w)
    (hv : ∀ W, Below w.heap.size w W → Calls Tryz.prog 130 #[.slice (some ⟨s, 0, none⟩) n n, .func (.func 154) #[] #[]] W (BoolOk true W)) :
    Calls Tryz.prog 100 #[.func (.func F) #[] caps, .slice (some ⟨s, 0, none⟩) n n] w (rtErr w) := by
  have hmf : ∀ (fn : Fn) (first cap : Array Value) (w : World), (Instr.makeFunc fn first cap).run Tryz.prog w = .ok (.func fn first cap) w := fun _ _ _ _ => rfl
  have hB : Below w.heap.size w w := Below.refl _ _
  go_enter_defers Tryz.func100, Tryz.ntmps100
  go_wp2_with fail
  refine world_cut (fun X => Below w.heap.size w X ∧ Row X w.heap.size (.cells #[.string ⟨#[]⟩, .string ⟨#[]⟩] 26) ∧ Row X (w.heap.size + 1) (.cells #[.int .i64 0] 31)) ⟨C5_hB, C4, C4⟩ ?_
  clear hB
  rintro W1 ⟨hB, rp, rq⟩
  refine (hv _ hB).mono ?_
  rintro e W2 ⟨rfl, h1⟩
  replace hB := hB.trans (h1.mono hB.size)
  replace rp := Row.below rp h1
  replace rq := Row.below rq h1
  clear h1
  clear hv
  go_wp2_with fail
  refine (echeck_false _ (he.below hB)).mono ?_
  rintro e W4 ⟨rfl, h1⟩
  replace hB := hB.trans (h1.mono hB.size)
  replace rp := Row.below rp h1
  replace rq := Row.below rq h1
  show bodyPostD _ _ _ _ _ _
  refine leaves_cons (f := 153) (args := #[.pointer (some ⟨w.heap.size, 0, none⟩), .pointer (some ⟨w.heap.size + 1, 0, none⟩)]) (by simp) (by simp [go_sem]) ?_
  refine (rtcatch _ _ a [] _ _ _ _ (by omega) rp rq (he.below hB)).mono ?_
  rintro e u' w'' ⟨rfl, rfl, rp', rq', hb⟩
  replace hB := hB.trans (hb w.heap.size (by omega) (by omega))
  obtain ⟨tp, dp0, dp1, _gp0, _gp1⟩ := Row.cells2 rp'
  obtain ⟨tq, dq, _gq⟩ := Row.cells1 rq'
  simp only [Leaves, settle, List.dropWhile_nil]
  exact ⟨.tuple #[.agg #[.string ⟨#[]⟩, .string ⟨#[]⟩], .int .i64 50], by simp [results, Tryz.results100, go_sem, dp0, dp1, dq], rfl, hB⟩
set_option maxRecDepth 100000 in
set_option maxHeartbeats 4000000 in
theorem ewidth_zero {a0 : Addr} (w : World) (he : EnvE a0 w) : Calls Tryz.prog 48 #[.agg #[.string ⟨#[]⟩, .string ⟨#[]⟩, .string ⟨#[]⟩, .string ⟨#[]⟩]] w (rtErr w) := by
  have egG : ∀ args w, (callFunc 101 args).run Tryz.prog w = .ok (.enter 101 args) w := enters_of Tryz.func101 (by kernel_rfl) rfl
  have egC : ∀ args w, (callFunc 154 args).run Tryz.prog w = .ok (.enter 154 args) w := enters_of Tryz.func154 (by kernel_rfl) rfl
  have hB : Below w.heap.size w w := Below.refl _ _
  go_enter Tryz.func48, Tryz.ntmps48
  have hmf : ∀ (fn : Fn) (first cap : Array Value) (w : World), (Instr.makeFunc fn first cap).run Tryz.prog w = .ok (.func fn first cap) w := fun _ _ _ _ => rfl
  go_wp2_with fail
  have sB := hB.size
  refine world_cut (fun X => Below w.heap.size w X ∧ Row X (w.heap.size + 1) (.cells #[.string ⟨#[]⟩, .string ⟨#[]⟩] 26) ∧ Row X (w.heap.size + 1 + 1) (.cells #[.string ⟨#[]⟩, .string ⟨#[]⟩, .string ⟨#[]⟩, .string ⟨#[]⟩] 29)) ⟨BW, RWh, RWh⟩ ?_
  clear hB sB
  rintro V1 ⟨hB, ro, rs⟩
  refine (rtcompute_bad 101 _ _ 1 a0 _ (he.below hB) egG (fun W h => contains1_zero 154 egC _ W (Row.below rs h) (fun W2 h2 => rtbad_zero W2))).mono ?_
  rintro e W1 ⟨rfl, h1⟩
  replace hB := hB.trans (h1.mono hB.size)
  replace ro := Row.below ro h1
  clear h1 rs
  obtain ⟨so, co0, co1, fo0, fo1⟩ := Row.cells2 ro
  clear hmf egG egC
  go_wp2_with fail
  have sB := hB.size
  refine post_cut (fun X => Below w.heap.size w X ∧ Row X (w.heap.size + 1) (.cells #[.string ⟨#[]⟩, .string ⟨#[]⟩] 26)) ⟨BW, RWh⟩ ?_
  clear ro so co0 co1 fo0 fo1 hB sB
  rintro V2 ⟨hB, ro⟩
  obtain ⟨so, co0, co1, fo0, fo1⟩ := Row.cells2 ro
  refine bodyPost_ret (v := .tuple #[.agg #[.string ⟨#[]⟩, .string ⟨#[]⟩], .int .i64 50]) ?res rfl ⟨rfl, hB⟩
  case res => simp [results, Tryz.results48, go_sem, co0, co1]
end Go.Proofs.YtngohpgkceedeaaGreatDoor
