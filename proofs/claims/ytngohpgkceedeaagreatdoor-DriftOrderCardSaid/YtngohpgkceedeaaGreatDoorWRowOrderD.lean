/-
  DriftOrder: the row and its card: for every input the law returns true. Under the row's own condition: the listed package-level variables hold what the program's text lays (the card ties them to it).
-/
import Derived.Carry
import Derived.ChangeMaps5
import Derived.Test.YtngohpgkceedeaaGreatDoorWDArgs
import Derived.Test.YtngohpgkceedeaaGreatDoorWDriftOrder
import Derived.Test.YtngohpgkceedeaaGreatDoorWQPlain7
set_option linter.unusedSimpArgs false
set_option linter.unusedVariables false
namespace Go.Proofs.YtngohpgkceedeaaGreatDoor.driftOrder
open Go Go.ChangeMaps Go.ChangeShapes Go.WideShapes Go.ChangeAt Go.RowKit Go.Lib

set_option maxRecDepth 100000 in
theorem contract (H : Type) (enc : TypeId × Value → H) (W : World) (base : Nat) (args : Array Value) (ds gs : List (DataW H)) (before : List MemPlace)
    (hval : ∀ (j : Nat) t v, Tryz.f6.params[j]? = some t → args[j]? = some v → Value.okWide Tryz.prog W .any base t v)
    (hW : DataW.Whole enc Tryz.prog Tryz.f6.params.toList Rows.driftOrderSpec.vars false W args.toList ds gs before) (hL : laidMetH Tryz.prog Rows.driftOrderRow.laid W) :
    Calls Tryz.prog 6 args W fun e W' => ∃ v, e = .returned v ∧ Rows.driftOrderSpec.post enc Tryz.prog Tryz.f6 false true false false W args v W' := by
  have env := env12_of_laid hL
  have hW' := hW
  obtain ⟨p, q, hA0, hV, rfl, hfz, hnd⟩ := hW
  have hA : DataW.TrodAll enc Tryz.prog W 0 (fun _ => true) true Tryz.f6.params.toList args.toList ds p := hA0
  rw [Tryz.params6] at hA hval
  obtain ⟨v0, vs0, d0, ds0, p0, q0, hargs, rfl, rfl, h0, r0⟩ := trodAll_cons hA
  obtain ⟨v1, vs1, d1, ds1, p1, q1, rfl, rfl, rfl, h1, r1⟩ := trodAll_cons r0
  obtain ⟨v2, vs2, d2, ds2, p2, q2, rfl, rfl, rfl, h2, r2⟩ := trodAll_cons r1
  obtain ⟨v3, vs3, d3, ds3, p3, q3, rfl, rfl, rfl, h3, r3⟩ := trodAll_cons r2
  obtain ⟨v4, vs4, d4, ds4, p4, q4, rfl, rfl, rfl, h4, r4⟩ := trodAll_cons r3
  obtain ⟨rfl, rfl, rfl⟩ := trodAll_nil r4
  obtain rfl : args = #[v0, v1, v2, v3, v4] := by cases args; simp_all
  obtain ⟨rfl, rfl⟩ := trodVars_none hV
  obtain ⟨x0, x1, rfl, rfl, z00, z01⟩ := open_ints2 (hval 0 50 v0 rfl rfl) h0
  obtain ⟨yp, yn, yc, yf, rfl, zn1, zx1, zf1⟩ := open_rowsK (k := 4) (e := 22) (by kernel_rfl) (by kernel_rfl) (by kernel_rfl) (by decide) (hval 1 51 v1 rfl rfl) h1
  obtain ⟨zp, zn, zc, zf, rfl, zn2, zx2, zf2⟩ := open_intsL (hval 2 58 v2 rfl rfl) h2
  obtain ⟨u, rfl, rfl, rfl, zz3⟩ := open_int Tryz.underlying3 (hval 3 3 v3 rfl rfl) h3
  obtain ⟨t, rfl, rfl, rfl, zz4⟩ := open_int Tryz.underlying3 (hval 4 3 v4 rfl rfl) h4
  clear hA0
  simp only [List.append_nil] at hW'
  refine (driftOrder_any x0 x1 yp yn yc yf zp zn zc zf u t ⟨z00, z01⟩ ⟨zn1, zx1, zf1⟩ ⟨zn2, zx2, zf2⟩ (isInt_wf zz3) (isInt_wf zz4) (w := W) env).mono ?_
  rintro e W' ⟨rfl, hb⟩
  exact ⟨_, rfl, _, _, _, [], _, [], hW', trodAll_mk1 (shut_bool Tryz.underlying4 _), trodAll_cons_mk (Below.trod (by kernel_rfl) (by kernel_rfl) (of_decide_eq_true (by kernel_rfl)) h0 hb (fun x hx => by cases hx)) (trodAll_cons_mk (Below.trod (by kernel_rfl) (by kernel_rfl) (of_decide_eq_true (by kernel_rfl)) h1 hb (trodLt h1)) (trodAll_cons_mk (Below.trod (by kernel_rfl) (by kernel_rfl) (of_decide_eq_true (by kernel_rfl)) h2 hb (trodLt h2)) (trodAll_cons_mk (shut_int Tryz.underlying3 zz3) (trodAll_cons_mk (shut_int Tryz.underlying3 zz4) trodAll_mk0)))), rfl, hb.frame _, fun h => by cases h⟩
theorem reads (os : Os) {H : Type} (enc : TypeId × Value → H) : ∃ places, DataW.whole enc Tryz.prog ((lawWorld12 os).forCall (fun _ _ => 0) ⟨#[], #[.agg #[.int .i64 0, .int .i64 0], .slice none 0 0, .slice none 0 0, .int .i64 0, .int .i64 0], []⟩).memory Tryz.f6.params.toList Rows.driftOrderSpec.vars false (#[.agg #[.int .i64 0, .int .i64 0], .slice none 0 0, .slice none 0 0, .int .i64 0, .int .i64 0] : Array Value).toList 8 = some ([.agg [.lit (.int .i64 0), .lit (.int .i64 0)], .nil, .nil, .lit (.int .i64 0), .lit (.int .i64 0)], [], places) :=
  ⟨[], by kernel_rfl⟩
set_option maxRecDepth 100000 in
theorem lifted (os : Os) (started : os.Started) (H : Type) (enc : TypeId × Value → H) (F : Stop.Interp) :
    ReturnsInHanded {} Tryz.checked os 6 .any ((OpenSpec.ofChange Rows.driftOrderSpec).preRow enc Tryz.prog Tryz.f6 Rows.driftOrderRow.domain false Rows.driftOrderRow.laid) (((OpenSpec.ofChange Rows.driftOrderSpec).at F).post enc Tryz.prog Tryz.f6 false true false false) := by
  obtain ⟨places, hx⟩ := reads os enc
  refine returnsInHanded_of_row (C := Tryz.checked) (s := OpenSpec.ofChange Rows.driftOrderSpec) lawOwn started (by kernel_rfl) Tryz.func6
    (witness_row_at (enc := enc) (C := Tryz.checked) false (lawWorld12 os) #[.agg #[.int .i64 0, .int .i64 0], .slice none 0 0, .slice none 0 0, .int .i64 0, .int .i64 0] rfl (by kernel_rfl) (by kernel_rfl) (by kernel_rfl)
      (OpenSpec.preRow_of_cond 8 hx (by kernel_rfl) (fun k hk => by cases hk) (by kernel_rfl) (laid_met12 os _))) ?_
  intro W base args ds gs before hval hW _ _ _ hL _ _
  exact contract H enc W base args ds gs before hval hW hL
theorem fInPlace : (Rows.driftOrderRow.inPlace == Tryz.prog.inPlace 6) = true := by kernel_rfl
theorem fUnfollowed : (Rows.driftOrderRow.unfollowed == Tryz.prog.unfollowed 6) = true := by kernel_rfl
theorem fRecurses : (Rows.driftOrderRow.recurses == Tryz.prog.recurses 6) = true := by kernel_rfl
theorem fNamed : (Rows.driftOrderRow.named == Tryz.prog.varsNamed 6) = true := by kernel_rfl
theorem fLaidOut : laidOutB Tryz.prog = true := by kernel_rfl
theorem fMapsRowed : mapsRowed Tryz.prog = true := by kernel_rfl
theorem fHeard : Tryz.prog.stopsHeard = true := by kernel_rfl
theorem fMayEnter : Tryz.prog.mayEnter = true := by kernel_rfl
theorem fLifted : (Rows.driftOrderRow.lifted == Tryz.prog.liftsFinal) = true := by kernel_rfl
theorem fMake : (Tryz.prog.make == some Rows.driftOrderRow.make) = true := by kernel_rfl
theorem closed : joinedFacts Tryz.prog 6 Tryz.f6 (OpenSpec.ofChange Rows.driftOrderSpec).bare Rows.driftOrderRow = true := by
  unfold joinedFacts
  rw [fInPlace, fUnfollowed, fRecurses, fNamed, fLaidOut, fMapsRowed, fHeard, fMayEnter, fLifted, fMake]
  kernel_rfl
theorem said : Rows.DriftOrderSaid :=
  OpenClaim.holds_of_cond 6 Tryz.f6 rfl rfl rfl rfl rfl rfl rfl ⟨rfl, rfl, rfl, rfl, rfl⟩ rfl rfl rfl rfl rfl (by kernel_rfl) Tryz.func6 closed
    (of_decide_eq_true (by kernel_rfl)) (by unfold Func.isWrapper; first | (rw [if_pos (by decide +kernel)]; kernel_rfl) | (rw [if_neg (by decide +kernel)]; exact ⟨rfl, rfl⟩))
    (fun os started H enc _ F => by rw [OpenClaim.pre_eq_preRow]; exact lifted os started H enc F)
theorem plain (f : FuncId) (fn : Func) (hf : Tryz.pinned.checked.prog.funcNamed "yardstick/yardsticklaw12.DriftOrder" = some f) (hfn : Tryz.pinned.checked.prog.funcs[f]? = some fn) :
    true = Tryz.pinned.checked.prog.looks [] ∧ ∀ (j : Nat) t, fn.params[j]? = some t → Tryz.pinned.checked.prog.wantsStandIn t = false := by
  obtain rfl : f = 6 := Option.some.inj ((show Tryz.prog.funcNamed "yardstick/yardsticklaw12.DriftOrder" = some 6 by kernel_rfl).symm.trans hf) |>.symm
  obtain rfl : fn = Tryz.f6 := (Option.some.inj (Tryz.func6.symm.trans hfn)).symm
  refine ⟨by kernel_rfl, fun j t ht => ?_⟩
  rw [Tryz.params6] at ht
  have hm : t ∈ [50, 51, 58, 3, 3] := by simpa using Array.mem_of_getElem? ht
  have hall : ([50, 51, 58, 3, 3].all fun u => !Tryz.prog.wantsStandIn u) = true := by kernel_rfl
  exact (show Tryz.prog.wantsStandIn t = false by simpa using List.all_eq_true.1 hall t hm)
end Go.Proofs.YtngohpgkceedeaaGreatDoor.driftOrder
namespace Go.Proofs.YtngohpgkceedeaaGreatDoor
open Go
/-- The card: DriftOrder. -/
theorem driftOrder_card : Rows.DriftOrderCardSaid :=
  Claim7.holds_tied_plain_at .later [] _ _ _ _ driftOrder.said (fun _ h => by cases h) (by kernel_rfl) (fun _ h => by cases h) driftOrder_row_tie rfl ⟨rfl, rfl⟩ (by kernel_rfl) rfl driftOrder.plain (by kernel_rfl)
#print axioms driftOrder_card
end Go.Proofs.YtngohpgkceedeaaGreatDoor
