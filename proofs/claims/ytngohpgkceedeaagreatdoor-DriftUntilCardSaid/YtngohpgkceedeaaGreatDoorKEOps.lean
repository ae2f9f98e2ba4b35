/-
  Package enclosure: ends, and what the closures of the exported functions compute.
-/
import Derived.Deep.RegionWith
import Derived.Test.YtngohpgkceedeaaGreatDoorKECompute
import Derived.Test.YtngohpgkceedeaaGreatDoorKEHull
set_option linter.unusedSimpArgs false
set_option linter.unusedVariables false
namespace Go.Proofs.YtngohpgkceedeaaGreatDoor
open Go Go.RowKit Go.Lib Go.Shelf

/-- An interval lies in a block. -/
def IvRow (W : World) (b : Nat) (a : Iv) : Prop := Row W b (.cells #[.string (S a.lo.num), .string (S (a.lo.den : Int)), .string (S a.hi.num), .string (S (a.hi.den : Int))] 29)
theorem IvRow.below {W W' : World} {b : Nat} {a : Iv} (h : IvRow W b a) (hb : Below W.heap.size W W') : IvRow W' b a := Row.below h hb
set_option maxRecDepth 100000 in
set_option maxHeartbeats 4000000 in
theorem ewidth1 (ba j : Nat) (a : Iv) (da : IDig j a) (hjk : j + j + 1 ≤ 200) (w : World) (he : Env w) (ra : IvRow w ba a) :
    Calls Tryz.prog 101 #[.pointer (some ⟨ba, 0, none⟩)] w fun e w' => e = .returned (Q (a.hi - a.lo)) ∧ Below w.heap.size w w' := by
  have M1 := fun W (h : Env W) => qsub da.2 da.1 hjk W h
  have M2 := fun W => emust (a.hi - a.lo) W
  unfold QOk at M1
  unfold QIs at M2
  generalize a.hi - a.lo = x at *
  clear da hjk
  unfold IvRow at *
  unfold Q at *
  have qa := ra.1
  have hB : Below w.heap.size w w := Below.refl _ _
  obtain ⟨sa, ca0, ca1, ca2, ca3, fa0, fa1, fa2, fa3⟩ := Row.cells4 ra
  go_enter Tryz.func101, Tryz.ntmps101
  go_wp2_with fail
  have sB := hB.size
  refine world_cut (fun X => Below w.heap.size w X ∧ Row X ba (.cells #[.string (S a.lo.num), .string (S (a.lo.den : Int)), .string (S a.hi.num), .string (S (a.hi.den : Int))] 29) ∧ Row X w.heap.size (.cells #[.string ⟨#[]⟩, .string ⟨#[]⟩] 26)) ⟨C1_hB, C3_ra, C2⟩ ?_
  clear ra
  clear sa ca0 ca1 ca2 ca3 fa0 fa1 fa2 fa3
  clear hB sB
  rintro V1 ⟨hB, ra, ro⟩
  obtain ⟨sa, ca0, ca1, ca2, ca3, fa0, fa1, fa2, fa3⟩ := Row.cells4 ra
  obtain ⟨so, co0, co1, fo0, fo1⟩ := Row.cells2 ro
  refine (M1 _ (he.below hB)).mono ?_
  rintro e W2 ⟨rfl, h1⟩
  clear sa ca0 ca1 ca2 ca3 fa0 fa1 fa2 fa3
  clear so co0 co1 fo0 fo1
  replace hB := hB.trans (h1.mono hB.size)
  replace ra := Row.below ra h1
  replace ro := Row.below ro h1
  clear h1
  obtain ⟨sa, ca0, ca1, ca2, ca3, fa0, fa1, fa2, fa3⟩ := Row.cells4 ra
  obtain ⟨so, co0, co1, fo0, fo1⟩ := Row.cells2 ro
  go_wp2_with fail
  refine (M2 _).mono ?_
  rintro e W3 ⟨rfl, h1⟩
  clear sa ca0 ca1 ca2 ca3 fa0 fa1 fa2 fa3
  clear so co0 co1 fo0 fo1
  replace hB := hB.trans (h1.mono hB.size)
  replace ra := Row.below ra h1
  replace ro := Row.below ro h1
  clear h1
  obtain ⟨sa, ca0, ca1, ca2, ca3, fa0, fa1, fa2, fa3⟩ := Row.cells4 ra
  obtain ⟨so, co0, co1, fo0, fo1⟩ := Row.cells2 ro
  go_wp2
  have sB := hB.size
  refine post_cut (fun X => Below w.heap.size w X ∧ Row X ba (.cells #[.string (S a.lo.num), .string (S (a.lo.den : Int)), .string (S a.hi.num), .string (S (a.hi.den : Int))] 29) ∧ Row X w.heap.size (.cells #[.string (S x.num), .string (S (x.den : Int))] 26)) ⟨C1_hB, C3_ra, C3_ro⟩ ?_
  clear ra
  clear sa ca0 ca1 ca2 ca3 fa0 fa1 fa2 fa3
  clear ro
  clear so co0 co1 fo0 fo1
  clear hB sB
  rintro V4 ⟨hB, ra, ro⟩
  obtain ⟨sa, ca0, ca1, ca2, ca3, fa0, fa1, fa2, fa3⟩ := Row.cells4 ra
  obtain ⟨so, co0, co1, fo0, fo1⟩ := Row.cells2 ro
  refine bodyPost_ret (v := .agg #[.string (S x.num), .string (S (x.den : Int))]) ?res rfl ⟨rfl, hB⟩
  case res => simp [results, Tryz.results101, go_sem, co0, co1]
set_option maxRecDepth 100000 in
set_option maxHeartbeats 4000000 in
theorem ewidth {j : Nat} {a : Iv} (da : IDig j a) (oa : a.Ok) (hjk : j + j + 1 ≤ 200) (w : World) (he : Env w) :
    Calls Tryz.prog 48 #[I a] w (rtOk (fun v => v = a.hi - a.lo) w) := by
  have egG : ∀ args w, (callFunc 101 args).run Tryz.prog w = .ok (.enter 101 args) w := enters_of Tryz.func101 (by kernel_rfl) rfl
  have egC : ∀ args w, (callFunc 154 args).run Tryz.prog w = .ok (.enter 154 args) w := enters_of Tryz.func154 (by kernel_rfl) rfl
  have hB : Below w.heap.size w w := Below.refl _ _
  show Calls Tryz.prog 48 #[.agg #[.string (S a.lo.num), .string (S (a.lo.den : Int)), .string (S a.hi.num), .string (S (a.hi.den : Int))]] w _
  go_enter Tryz.func48, Tryz.ntmps48
  have hmf : ∀ (fn : Fn) (first cap : Array Value) (w : World), (Instr.makeFunc fn first cap).run Tryz.prog w = .ok (.func fn first cap) w := fun _ _ _ _ => rfl
  go_wp2_with fail
  have sB := hB.size
  refine world_cut (fun X => Below w.heap.size w X ∧ Row X w.heap.size (.cells #[.string (S a.lo.num), .string (S (a.lo.den : Int)), .string (S a.hi.num), .string (S (a.hi.den : Int))] 29) ∧ Row X (w.heap.size + 1) (.cells #[.string ⟨#[]⟩, .string ⟨#[]⟩] 26) ∧ Row X (w.heap.size + 1 + 1) (.cells #[.string (S a.lo.num), .string (S (a.lo.den : Int)), .string (S a.hi.num), .string (S (a.hi.den : Int))] 29)) ⟨C1_hB, C2, C2, C2⟩ ?_
  clear hB sB
  rintro V1 ⟨hB, ra, ro, rs⟩
  obtain ⟨sa, ca0, ca1, ca2, ca3, fa0, fa1, fa2, fa3⟩ := Row.cells4 ra
  obtain ⟨so, co0, co1, fo0, fo1⟩ := Row.cells2 ro
  obtain ⟨ss, cs0, cs1, cs2, cs3, fs0, fs1, fs2, fs3⟩ := Row.cells4 rs
  refine (rtcompute_ok 101 _ _ 1 (fun v => v = a.hi - a.lo) _ egG (fun W h => contains1 154 egC _ a W (Row.below rs h) (fun W2 h2 => rtbad a (da.mono (by omega)) oa W2 ((he.below (hB.trans (h.mono hB.size))).below h2))) (fun W h => (ewidth1 _ j a da hjk W (he.below (hB.trans (h.mono hB.size))) (Row.below ra h)).mono fun e w' hh => ⟨_, rfl, hh.1, hh.2⟩)).mono ?_
  rintro e W1 ⟨v, pv, rfl, h1⟩
  have PV := Lib.hid pv
  clear pv
  clear sa ca0 ca1 ca2 ca3 fa0 fa1 fa2 fa3
  clear so co0 co1 fo0 fo1
  clear ss cs0 cs1 cs2 cs3 fs0 fs1 fs2 fs3
  replace hB := hB.trans (h1.mono hB.size)
  replace ra := Row.below ra h1
  replace ro := Row.below ro h1
  replace rs := Row.below rs h1
  clear h1
  obtain ⟨sa, ca0, ca1, ca2, ca3, fa0, fa1, fa2, fa3⟩ := Row.cells4 ra
  obtain ⟨so, co0, co1, fo0, fo1⟩ := Row.cells2 ro
  obtain ⟨ss, cs0, cs1, cs2, cs3, fs0, fs1, fs2, fs3⟩ := Row.cells4 rs
  clear hmf egG egC
  unfold Q
  go_wp2
  have sB := hB.size
  refine post_cut (fun X => Below w.heap.size w X ∧ Row X w.heap.size (.cells #[.string (S a.lo.num), .string (S (a.lo.den : Int)), .string (S a.hi.num), .string (S (a.hi.den : Int))] 29) ∧ Row X (w.heap.size + 1) (.cells #[.string (S v.num), .string (S (v.den : Int))] 26) ∧ Row X (w.heap.size + 1 + 1) (.cells #[.string (S a.lo.num), .string (S (a.lo.den : Int)), .string (S a.hi.num), .string (S (a.hi.den : Int))] 29)) ⟨C1_hB, C3_ra, C3_ro, C3_rs⟩ ?_
  clear ra
  clear sa ca0 ca1 ca2 ca3 fa0 fa1 fa2 fa3
  clear ro
  clear so co0 co1 fo0 fo1
  clear rs
  clear ss cs0 cs1 cs2 cs3 fs0 fs1 fs2 fs3
  clear hB sB
  rintro V2 ⟨hB, ra, ro, rs⟩
  obtain ⟨sa, ca0, ca1, ca2, ca3, fa0, fa1, fa2, fa3⟩ := Row.cells4 ra
  obtain ⟨so, co0, co1, fo0, fo1⟩ := Row.cells2 ro
  obtain ⟨ss, cs0, cs1, cs2, cs3, fs0, fs1, fs2, fs3⟩ := Row.cells4 rs
  refine bodyPost_ret (v := .tuple #[.agg #[.string (S v.num), .string (S (v.den : Int))], .int .i64 0]) ?res rfl ⟨_, PV.out, rfl, hB⟩
  case res => simp [results, Tryz.results48, go_sem, co0, co1]
end Go.Proofs.YtngohpgkceedeaaGreatDoor
