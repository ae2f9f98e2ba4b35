/-
 DriftMatchesReference: the row and its card: for every input the law returns true. Under the row's own condition: the listed package-level variables hold what the program's text lays (the card ties them to it).
-/
import Derived.Carry
import Derived.ChangeMaps5
import Derived.Test.YtnokpldomlmamaaGreatDoorODriftMatchesReference
import Derived.Test.YtnokpldomlmamaaGreatDoorOEnv12
import Derived.Test.YtnokpldomlmamaaGreatDoorOMArgs
set_option linter.unusedSimpArgs false
set_option linter.unusedVariables false
set_option maxRecDepth 100000
namespace Go.Proofs.YtnokpldomlmamaaGreatDoor.driftMatchesReference
open Go Go.ChangeMaps Go.ChangeShapes Go.WideShapes Go.ChangeAt Go.RowKit Go.Lib
theorem contract (H:Type) (enc:TypeId × Value→H) (W:World) (base:Nat) (args:Array Value) (ds gs:List (DataW H)) (before:List MemPlace)
  (hval:∀ (j:Nat) t v,Tryz.f3.params[j]? = some t→args[j]? = some v→Value.okWide Tryz.prog W .any base t v)
  (hW:DataW.Whole enc Tryz.prog Tryz.f3.params.toList Rows.driftMatchesReferenceSpec.vars false W args.toList ds gs before) (hL:laidMetH Tryz.prog Rows.driftMatchesReferenceRow.laid W) :
  Calls Tryz.prog 3 args W fun e W'=>∃ v,e = .returned v∧Rows.driftMatchesReferenceSpec.post enc Tryz.prog Tryz.f3 false true false false W args v W':=by
 have env:=env12_of_laid hL
 have hW':=hW
 obtain ⟨p,q,hA0,hV,rfl,hfz,hnd⟩:=hW
 have hA:DataW.TrodAll enc Tryz.prog W 0 (fun _=>true) true Tryz.f3.params.toList args.toList ds p:=hA0
 rw [Tryz.params3] at hA hval
 obtain ⟨v0,vs0,d0,ds0,p0,q0,hargs,rfl,rfl,h0,r0⟩:=trodAll_cons hA
 obtain ⟨v1,vs1,d1,ds1,p1,q1,rfl,rfl,rfl,h1,r1⟩:=trodAll_cons r0
 obtain ⟨v2,vs2,d2,ds2,p2,q2,rfl,rfl,rfl,h2,r2⟩:=trodAll_cons r1
 obtain ⟨v3,vs3,d3,ds3,p3,q3,rfl,rfl,rfl,h3,r3⟩:=trodAll_cons r2
 obtain ⟨v4,vs4,d4,ds4,p4,q4,rfl,rfl,rfl,h4,r4⟩:=trodAll_cons r3
 obtain ⟨v5,vs5,d5,ds5,p5,q5,rfl,rfl,rfl,h5,r5⟩:=trodAll_cons r4
 obtain ⟨rfl,rfl,rfl⟩:=trodAll_nil r5
 obtain rfl:args=#[v0,v1,v2,v3,v4,v5]:=by cases args;simp_all
 obtain ⟨rfl,rfl⟩:=trodVars_none hV
 obtain ⟨xa,xb,xp,xn,xc,xf,rfl,zn0,zx0,zf0⟩:=open_hist (hval 0 26 v0 rfl rfl) h0
 obtain ⟨y0,y1,rfl,rfl,z10,z11⟩:=open_ints2 (hval 1 27 v1 rfl rfl) h1
 obtain ⟨zp,zn,zc,zf,rfl,zn2,zx2,zf2⟩:=open_rowsK (k:=4) (e := 85) (by kernel_rfl) (by kernel_rfl) (by kernel_rfl) (by decide) (hval 2 28 v2 rfl rfl) h2
 obtain ⟨ut,ua,ub,uc,ud,rfl⟩:=open_pt (hval 3 32 v3 rfl rfl) h3
 obtain ⟨t,rfl,rfl,rfl,zz4⟩:=open_int Tryz.underlying3 (hval 4 3 v4 rfl rfl) h4
 obtain ⟨sa,sb,rfl⟩:=open_ratio (hval 5 23 v5 rfl rfl) h5
 clear hA0
 simp only [List.append_nil] at hW'
 refine (driftMatchesReference_any xa xb xp xn xc xf y0 y1 zp zn zc zf ut ua ub uc ud t sa sb W zn0 zx0 zf0 ⟨z10,z11⟩ ⟨zn2,zx2,zf2⟩ (isInt_wf zz4) env).mono ?_
 rintro e W' ⟨rfl,hb⟩
 exact ⟨_,rfl,_,_,_,[],_,[],hW',trodAll_mk1 (shut_bool Tryz.underlying4 _),trodAll_cons_mk (Below.trod (by kernel_rfl) (by kernel_rfl) (of_decide_eq_true (by kernel_rfl)) h0 hb (trodLt h0)) (trodAll_cons_mk (Below.trod (by kernel_rfl) (by kernel_rfl) (of_decide_eq_true (by kernel_rfl)) h1 hb (fun x hx=>by cases hx)) (trodAll_cons_mk (Below.trod (by kernel_rfl) (by kernel_rfl) (of_decide_eq_true (by kernel_rfl)) h2 hb (trodLt h2)) (trodAll_cons_mk (Below.trod (by kernel_rfl) (by kernel_rfl) (of_decide_eq_true (by kernel_rfl)) h3 hb (trodLt h3)) (trodAll_cons_mk (shut_int Tryz.underlying3 zz4) (trodAll_cons_mk (Below.trod (by kernel_rfl) (by kernel_rfl) (of_decide_eq_true (by kernel_rfl)) h5 hb (trodLt h5)) trodAll_mk0))))),rfl,hb.frame _,fun h=>by cases h⟩
theorem reads (os:Os) {H:Type} (enc:TypeId × Value→H):∃ places,DataW.whole enc Tryz.prog ((lawWorld12 os).forCall (fun _ _=>0) ⟨#[],#[.agg #[.string ⟨#[]⟩,.string ⟨#[]⟩,.slice none 0 0],.agg #[.int .i64 0,.int .i64 0],.slice none 0 0,.agg #[.int .i64 0,.string ⟨#[]⟩,.string ⟨#[]⟩,.string ⟨#[]⟩,.string ⟨#[]⟩],.int .i64 0,.agg #[.string ⟨#[]⟩,.string ⟨#[]⟩]],[]⟩).memory Tryz.f3.params.toList Rows.driftMatchesReferenceSpec.vars false (#[.agg #[.string ⟨#[]⟩,.string ⟨#[]⟩,.slice none 0 0],.agg #[.int .i64 0,.int .i64 0],.slice none 0 0,.agg #[.int .i64 0,.string ⟨#[]⟩,.string ⟨#[]⟩,.string ⟨#[]⟩,.string ⟨#[]⟩],.int .i64 0,.agg #[.string ⟨#[]⟩,.string ⟨#[]⟩]]:Array Value).toList 8=some ([.agg [.agg [.lit (.string []),.lit (.string [])],.nil],.agg [.lit (.int .i64 0),.lit (.int .i64 0)],.nil,.agg [.lit (.int .i64 0),.agg [.agg [.lit (.string []),.lit (.string [])],.agg [.lit (.string []),.lit (.string [])]]],.lit (.int .i64 0),.agg [.lit (.string []),.lit (.string [])]],[],places) :=
 ⟨[],by kernel_rfl⟩
theorem lifted (os:Os) (started:os.Started) (H:Type) (enc:TypeId × Value→H) (F:Stop.Interp) :
  ReturnsInHanded {} Tryz.checked os 3 .any ((OpenSpec.ofChange Rows.driftMatchesReferenceSpec).preRow enc Tryz.prog Tryz.f3 Rows.driftMatchesReferenceRow.domain false Rows.driftMatchesReferenceRow.laid) (((OpenSpec.ofChange Rows.driftMatchesReferenceSpec).at F).post enc Tryz.prog Tryz.f3 false true false false):=by
 obtain ⟨places,hx⟩:=reads os enc
 refine returnsInHanded_of_row (C:=Tryz.checked) (s:=OpenSpec.ofChange Rows.driftMatchesReferenceSpec) lawOwn started (by kernel_rfl) Tryz.func3
  (witness_row_at (enc:=enc) (C:=Tryz.checked) false (lawWorld12 os) #[.agg #[.string ⟨#[]⟩,.string ⟨#[]⟩,.slice none 0 0],.agg #[.int .i64 0,.int .i64 0],.slice none 0 0,.agg #[.int .i64 0,.string ⟨#[]⟩,.string ⟨#[]⟩,.string ⟨#[]⟩,.string ⟨#[]⟩],.int .i64 0,.agg #[.string ⟨#[]⟩,.string ⟨#[]⟩]] rfl (by kernel_rfl) (by kernel_rfl) (by kernel_rfl)
   (OpenSpec.preRow_of_cond 8 hx (by kernel_rfl) (fun k hk=>by cases hk) (by kernel_rfl) (laid_met12 os _))) ?_
 intro W base args ds gs before hval hW _ _ _ hL _ _
 exact contract H enc W base args ds gs before hval hW hL
theorem fInPlace:(Rows.driftMatchesReferenceRow.inPlace == Tryz.prog.inPlace 3)=true:=by kernel_rfl
theorem fUnfollowed:(Rows.driftMatchesReferenceRow.unfollowed == Tryz.prog.unfollowed 3)=true:=by kernel_rfl
theorem fRecurses:(Rows.driftMatchesReferenceRow.recurses == Tryz.prog.recurses 3)=true:=by kernel_rfl
theorem fNamed:(Rows.driftMatchesReferenceRow.named == Tryz.prog.varsNamed 3)=true:=by kernel_rfl
theorem fLaidOut:laidOutB Tryz.prog=true:=by kernel_rfl
theorem fMapsRowed:mapsRowed Tryz.prog=true:=by kernel_rfl
theorem fHeard:Tryz.prog.stopsHeard=true:=by kernel_rfl
theorem fMayEnter:Tryz.prog.mayEnter=true:=by kernel_rfl
theorem fLifted:(Rows.driftMatchesReferenceRow.lifted == Tryz.prog.liftsFinal)=true:=by kernel_rfl
theorem fMake:(Tryz.prog.make == some Rows.driftMatchesReferenceRow.make)=true:=by kernel_rfl
theorem closed:joinedFacts Tryz.prog 3 Tryz.f3 (OpenSpec.ofChange Rows.driftMatchesReferenceSpec).bare Rows.driftMatchesReferenceRow=true:=by
 unfold joinedFacts
 rw [fInPlace,fUnfollowed,fRecurses,fNamed,fLaidOut,fMapsRowed,fHeard,fMayEnter,fLifted,fMake]
 kernel_rfl
theorem said:Rows.DriftMatchesReferenceSaid :=
 OpenClaim.holds_of_cond 3 Tryz.f3 rfl rfl rfl rfl rfl rfl rfl ⟨rfl,rfl,rfl,rfl,rfl⟩ rfl rfl rfl rfl rfl (by kernel_rfl) Tryz.func3 closed
  (of_decide_eq_true (by kernel_rfl)) (by unfold Func.isWrapper;first | (rw [if_pos (by decide +kernel)];kernel_rfl) | (rw [if_neg (by decide +kernel)];exact ⟨rfl,rfl⟩))
  (fun os started H enc _ F=>by rw [OpenClaim.pre_eq_preRow];exact lifted os started H enc F)
theorem plain (f:FuncId) (fn:Func) (hf:Tryz.pinned.checked.prog.funcNamed "yardstick/yardsticklaw12.DriftMatchesReference" = some f) (hfn:Tryz.pinned.checked.prog.funcs[f]? = some fn) :
  true=Tryz.pinned.checked.prog.looks []∧∀ (j:Nat) t,fn.params[j]? = some t→Tryz.pinned.checked.prog.wantsStandIn t=false:=by
 obtain rfl:f = 3 := Option.some.inj ((show Tryz.prog.funcNamed "yardstick/yardsticklaw12.DriftMatchesReference" = some 3 by kernel_rfl).symm.trans hf) |>.symm
 obtain rfl:fn=Tryz.f3 := (Option.some.inj (Tryz.func3.symm.trans hfn)).symm
 refine ⟨by kernel_rfl,fun j t ht => ?_⟩
 rw [Tryz.params3] at ht
 have hm:t ∈ [26, 27, 28, 32, 3, 23]:=by simpa using Array.mem_of_getElem? ht
 have hall:([26, 27, 28, 32, 3, 23].all fun u => !Tryz.prog.wantsStandIn u)=true:=by kernel_rfl
 exact (show Tryz.prog.wantsStandIn t=false by simpa using List.all_eq_true.1 hall t hm)
end Go.Proofs.YtnokpldomlmamaaGreatDoor.driftMatchesReference
