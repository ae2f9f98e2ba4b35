/-
 AffineRoots: the row and its card: for every input the law returns true. Under the row's own condition: the listed package-level variables hold what the program's text lays (the card ties them to it).
-/
import Derived.Test.YtjpkfjmmmmfeeaaGreatDoorKEnvA8
import Derived.Test.YtjpkfjmmmmfeeaaGreatDoorKAffineRoots
import Derived.Test.YtjpkfjmmmmfeeaaGreatDoorKAFits
import Derived.ChangeMaps5
import Derived.Carry
import Derived.Test.YtjpkfjmmmmfeeaaGreatDoorKExtra0
import Derived.Test.YtjpkfjmmmmfeeaaGreatDoorKExtra1
set_option linter.unusedSimpArgs false
set_option linter.unusedVariables false
set_option maxRecDepth 100000
namespace Go.Proofs.YtjpkfjmmmmfeeaaGreatDoor.affineRoots
open Go Go.ChangeMaps Go.ChangeShapes Go.WideShapes Go.ChangeAt Go.RowKit Go.Lib
theorem contract (H:Type) (enc:TypeId × Value→H) (W:World) (base:Nat) (args:Array Value) (ds gs:List (DataW H)) (before:List MemPlace)
  (hval:∀ (j:Nat) t v,Tryz.f7.params[j]? = some t→args[j]? = some v→Value.okWide Tryz.prog W .any base t v)
  (hW:DataW.Whole enc Tryz.prog Tryz.f7.params.toList Rows.affineRootsSpec.vars false W args.toList ds gs before) (hL:laidMetH Tryz.prog Rows.affineRootsRow.laid W) :
  Calls Tryz.prog 7 args W fun e W'=>∃ v,e = .returned v∧Rows.affineRootsSpec.post enc Tryz.prog Tryz.f7 false true false false W args v W':=by
 obtain ⟨a0,a1,env⟩:=envA_of_laid hL
 have hW':=hW
 obtain ⟨p,q,hA0,hV,rfl,hfz,hnd⟩:=hW
 have hA:DataW.TrodAll enc Tryz.prog W 0 (fun _=>true) true Tryz.f7.params.toList args.toList ds p:=hA0
 rw [Tryz.params7] at hA hval
 obtain ⟨v0,vs0,d0,ds0,p0,q0,hargs,rfl,rfl,h0,r0⟩:=trodAll_cons hA
 obtain ⟨v1,vs1,d1,ds1,p1,q1,rfl,rfl,rfl,h1,r1⟩:=trodAll_cons r0
 obtain ⟨v2,vs2,d2,ds2,p2,q2,rfl,rfl,rfl,h2,r2⟩:=trodAll_cons r1
 obtain ⟨v3,vs3,d3,ds3,p3,q3,rfl,rfl,rfl,h3,r3⟩:=trodAll_cons r2
 obtain ⟨rfl,rfl,rfl⟩:=trodAll_nil r3
 obtain rfl:args=#[v0,v1,v2,v3]:=by cases args;simp_all
 obtain ⟨rfl,rfl⟩:=trodVars_none hV
 obtain ⟨xc,xr,xg,rfl,zc0,zr0,zg0⟩:=open_numbers (hval 0 24 v0 rfl rfl) h0
 obtain ⟨yg,rfl,zg1⟩:=open_six (hval 1 22 v1 rfl rfl) h1
 obtain ⟨z,rfl,rfl,rfl,zz2⟩:=open_int Tryz.underlying3 (hval 2 3 v2 rfl rfl) h2
 obtain ⟨u,rfl,rfl,rfl,zz3⟩:=open_int Tryz.underlying3 (hval 3 3 v3 rfl rfl) h3
 clear hA0
 simp only [List.append_nil] at hW'
 refine (Go.Proofs.YtjpkfjmmmmfeeaaGreatDoor.affineRoots zc0 zr0 zg0 zg1 (isInt_wf zz2) (isInt_wf zz3) W env).mono ?_
 rintro e W' ⟨rfl,hb⟩
 exact ⟨_,rfl,_,_,_,[],_,[],hW',trodAll_mk1 (shut_bool Tryz.underlying4 _),trodAll_cons_mk (Below.trod (by kernel_rfl) (by kernel_rfl) (of_decide_eq_true (by kernel_rfl)) h0 hb (trodLt8 h0)) (trodAll_cons_mk (Below.trod (by kernel_rfl) (by kernel_rfl) (of_decide_eq_true (by kernel_rfl)) h1 hb (trodLt8 h1)) (trodAll_cons_mk (shut_int Tryz.underlying3 zz2) (trodAll_cons_mk (shut_int Tryz.underlying3 zz3) trodAll_mk0))),rfl,hb.frame _,fun h=>by cases h⟩
theorem reads (os:Os) {H:Type} (enc:TypeId × Value→H):∃ places,DataW.whole enc Tryz.prog ((lawWorld8 os).forCall (fun _ _=>0) ⟨#[],#[.agg #[.int .i64 0,.int .i64 0,.int .i64 0,.int .i64 0,.int .i64 0,.int .i64 0,.int .i64 0,.int .i64 0],.agg #[.int .i64 0,.int .i64 0,.int .i64 0,.int .i64 0,.int .i64 0,.int .i64 0],.int .i64 0,.int .i64 0],[]⟩).memory Tryz.f7.params.toList Rows.affineRootsSpec.vars false (#[.agg #[.int .i64 0,.int .i64 0,.int .i64 0,.int .i64 0,.int .i64 0,.int .i64 0,.int .i64 0,.int .i64 0],.agg #[.int .i64 0,.int .i64 0,.int .i64 0,.int .i64 0,.int .i64 0,.int .i64 0],.int .i64 0,.int .i64 0]:Array Value).toList 8=some ([.agg [.lit (.int .i64 0),.lit (.int .i64 0),.agg [.lit (.int .i64 0),.lit (.int .i64 0),.lit (.int .i64 0),.lit (.int .i64 0),.lit (.int .i64 0),.lit (.int .i64 0)]],.agg [.lit (.int .i64 0),.lit (.int .i64 0),.lit (.int .i64 0),.lit (.int .i64 0),.lit (.int .i64 0),.lit (.int .i64 0)],.lit (.int .i64 0),.lit (.int .i64 0)],[],places) :=
 ⟨[],by kernel_rfl⟩
theorem lifted (os:Os) (started:os.Started) (H:Type) (enc:TypeId × Value→H) (F:Stop.Interp) :
  ReturnsInHanded {} Tryz.checked os 7 .any ((OpenSpec.ofChange Rows.affineRootsSpec).preRow enc Tryz.prog Tryz.f7 Rows.affineRootsRow.domain false Rows.affineRootsRow.laid) (((OpenSpec.ofChange Rows.affineRootsSpec).at F).post enc Tryz.prog Tryz.f7 false true false false):=by
 obtain ⟨places,hx⟩:=reads os enc
 refine returnsInHanded_of_row (C:=Tryz.checked) (s:=OpenSpec.ofChange Rows.affineRootsSpec) lawOwn started (by kernel_rfl) Tryz.func7
  (witness_row_at (enc:=enc) (C:=Tryz.checked) false (lawWorld8 os) #[.agg #[.int .i64 0,.int .i64 0,.int .i64 0,.int .i64 0,.int .i64 0,.int .i64 0,.int .i64 0,.int .i64 0],.agg #[.int .i64 0,.int .i64 0,.int .i64 0,.int .i64 0,.int .i64 0,.int .i64 0],.int .i64 0,.int .i64 0] rfl (by kernel_rfl) (by kernel_rfl) (by kernel_rfl)
   (OpenSpec.preRow_of_cond 8 hx (by kernel_rfl) (fun k hk=>by cases hk) (by kernel_rfl) (laid_met8 os _))) ?_
 intro W base args ds gs before hval hW _ _ _ hL _ _
 exact contract H enc W base args ds gs before hval hW hL
theorem fInPlace:(Rows.affineRootsRow.inPlace == Tryz.prog.inPlace 7)=true:=by kernel_rfl
theorem fUnfollowed:(Rows.affineRootsRow.unfollowed == Tryz.prog.unfollowed 7)=true:=by kernel_rfl
theorem fRecurses:(Rows.affineRootsRow.recurses == Tryz.prog.recurses 7)=true:=by kernel_rfl
theorem fNamed:(Rows.affineRootsRow.named == Tryz.prog.varsNamed 7)=true:=by kernel_rfl
theorem fLaidOut:laidOutB Tryz.prog=true:=by kernel_rfl
theorem fMapsRowed:mapsRowed Tryz.prog=true:=by kernel_rfl
theorem fHeard:Tryz.prog.stopsHeard=true:=by kernel_rfl
theorem fMayEnter:Tryz.prog.mayEnter=true:=by kernel_rfl
theorem fLifted:(Rows.affineRootsRow.lifted == Tryz.prog.liftsFinal)=true:=by kernel_rfl
theorem fMake:(Tryz.prog.make == some Rows.affineRootsRow.make)=true:=by kernel_rfl
theorem closed:joinedFacts Tryz.prog 7 Tryz.f7 (OpenSpec.ofChange Rows.affineRootsSpec).bare Rows.affineRootsRow=true:=by
 unfold joinedFacts
 rw [fInPlace,fUnfollowed,fRecurses,fNamed,fLaidOut,fMapsRowed,fHeard,fMayEnter,fLifted,fMake]
 kernel_rfl
theorem said:Rows.AffineRootsSaid :=
 OpenClaim.holds_of_cond 7 Tryz.f7 rfl rfl rfl rfl rfl rfl rfl ⟨rfl,rfl,rfl,rfl,rfl⟩ rfl rfl rfl rfl rfl (by kernel_rfl) Tryz.func7 closed
  (of_decide_eq_true (by kernel_rfl)) (by unfold Func.isWrapper;first | (rw [if_pos (by decide +kernel)];kernel_rfl) | (rw [if_neg (by decide +kernel)];exact ⟨rfl,rfl⟩))
  (fun os started H enc _ F=>by rw [OpenClaim.pre_eq_preRow];exact lifted os started H enc F)
theorem plain (f:FuncId) (fn:Func) (hf:Tryz.pinned.checked.prog.funcNamed "yardstick/yardsticklaw08.AffineRoots" = some f) (hfn:Tryz.pinned.checked.prog.funcs[f]? = some fn) :
  true=Tryz.pinned.checked.prog.looks []∧∀ (j:Nat) t,fn.params[j]? = some t→Tryz.pinned.checked.prog.wantsStandIn t=false:=by
 obtain rfl:f = 7 := Option.some.inj ((show Tryz.prog.funcNamed "yardstick/yardsticklaw08.AffineRoots" = some 7 by kernel_rfl).symm.trans hf) |>.symm
 obtain rfl:fn=Tryz.f7 := (Option.some.inj (Tryz.func7.symm.trans hfn)).symm
 refine ⟨by kernel_rfl,fun j t ht => ?_⟩
 rw [Tryz.params7] at ht
 have hm:t ∈ [24, 22, 3, 3]:=by simpa using Array.mem_of_getElem? ht
 have hall:([24, 22, 3, 3].all fun u => !Tryz.prog.wantsStandIn u)=true:=by kernel_rfl
 exact (show Tryz.prog.wantsStandIn t=false by simpa using List.all_eq_true.1 hall t hm)
end Go.Proofs.YtjpkfjmmmmfeeaaGreatDoor.affineRoots
