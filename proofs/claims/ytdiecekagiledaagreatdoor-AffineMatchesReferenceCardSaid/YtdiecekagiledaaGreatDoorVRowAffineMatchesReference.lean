/- AffineMatchesReference: the row and its card: for every input the law. -/
import Derived.Test.YtdiecekagiledaaGreatDoorVAffineMatchesReference
import Derived.Test.YtdiecekagiledaaGreatDoorVFArgs
set_option linter.unusedSimpArgs false
set_option linter.unusedVariables false
set_option maxRecDepth 100000
namespace Go.Proofs.YtdiecekagiledaaGreatDoor.affineMatchesReference
open Go Go.ChangeMaps Go.ChangeShapes Go.WideShapes Go.ChangeAt Go.RowKit Go.Lib
theorem zbr(H:Type)(enc:TypeId × Value->H)(W:World)(base:Nat)(args:Array Value)(ds gs:List (DataW H))(before:List MemPlace)
  (hval:∀(j:Nat) t v,Tryz.f3.params[j]? = some t->args[j]? = some v->Value.okWide Tryz.prog W .any base t v)
  (hW:DataW.Whole enc Tryz.prog Tryz.f3.params.toList Rows.affineMatchesReferenceSpec.vars false W args.toList ds gs before) (hL:laidMetH Tryz.prog Rows.affineMatchesReferenceRow.laid W) :
  Calls Tryz.prog 3 args W fun e W'=>∃ v,e=.returned v/\Rows.affineMatchesReferenceSpec.post enc Tryz.prog Tryz.f3 false true false false W args v W':=by
 obtain⟨a0,a1,env⟩:=ya4 hL;have hW':=hW;obtain⟨p,q,hA0,hV,rfl,hfz,hnd⟩:=hW;have hA:DataW.TrodAll enc Tryz.prog W 0 (fun _=>true) true Tryz.f3.params.toList args.toList ds p:=hA0;rw[Tryz.params3]at hA hval;obtain⟨v0,vs0,d0,ds0,p0,q0,hargs,rfl,rfl,h0,r0⟩:=trodAll_cons hA;obtain⟨v1,vs1,d1,ds1,p1,q1,rfl,rfl,rfl,h1,r1⟩:=trodAll_cons r0;obtain⟨v2,vs2,d2,ds2,p2,q2,rfl,rfl,rfl,h2,r2⟩:=trodAll_cons r1;obtain⟨v3,vs3,d3,ds3,p3,q3,rfl,rfl,rfl,h3,r3⟩:=trodAll_cons r2;obtain⟨v4,vs4,d4,ds4,p4,q4,rfl,rfl,rfl,h4,r4⟩:=trodAll_cons r3;obtain⟨v5,vs5,d5,ds5,p5,q5,rfl,rfl,rfl,h5,r5⟩:=trodAll_cons r4;obtain⟨v6,vs6,d6,ds6,p6,q6,rfl,rfl,rfl,h6,r6⟩:=trodAll_cons r5;obtain⟨rfl,rfl,rfl⟩:=trodAll_nil r6;obtain rfl:args=#[v0,v1,v2,v3,v4,v5,v6]:=by cases args;simp_all
 obtain⟨rfl,rfl⟩:=trodVars_none hV;obtain⟨x1,x2,xp,xn,xc,xf,x3,x4,rfl,zn0,zx0⟩:=qa7 (hval 0 26 v0 rfl rfl) h0;obtain⟨y1,y2,yp,yn,yc,yf,y3,y4,rfl,zn1,zx1⟩:=qa7 (hval 1 26 v1 rfl rfl) h1;obtain⟨zc,zr,zg,rfl,zc2,zr2,zg2⟩:=yav (hval 2 29 v2 rfl rfl) h2;obtain⟨uc,ur,ug,rfl,zc3,zr3,zg3⟩:=yav (hval 3 29 v3 rfl rfl) h3;obtain⟨ta,tb,rfl⟩:=zbl (hval 4 23 v4 rfl rfl) h4;obtain⟨sp,sn,sc,sf,rfl,zn5,zx5⟩:=jbF (hval 5 24 v5 rfl rfl) h5;obtain⟨qg,rfl,zg6⟩:=ycn (hval 6 27 v6 rfl rfl) h6;clear hA0;simp only[List.append_nil]at hW';refine(Go.Proofs.YtdiecekagiledaaGreatDoor.affineMatchesReference zn0 zn1 zc2 zr2 zg2 zc3 zr3 zg3 zn5 zg6 W zx0 zx1 zx5 env).mono ?_;rintro e W'⟨rfl,hb⟩;exact⟨_,rfl,_,_,_,[],_,[],hW',trodAll_mk1 (shut_bool Tryz.underlying4 _),trodAll_cons_mk (Below.trod kr9 kr9 (of_decide_eq_true kr9) h0 hb (vah h0)) (trodAll_cons_mk (Below.trod kr9 kr9 (of_decide_eq_true kr9) h1 hb (vah h1)) (trodAll_cons_mk (Below.trod kr9 kr9 (of_decide_eq_true kr9) h2 hb (vah h2)) (trodAll_cons_mk (Below.trod kr9 kr9 (of_decide_eq_true kr9) h3 hb (vah h3)) (trodAll_cons_mk (Below.trod kr9 kr9 (of_decide_eq_true kr9) h4 hb (vah h4)) (trodAll_cons_mk (Below.trod kr9 kr9 (of_decide_eq_true kr9) h5 hb (vah h5)) (trodAll_cons_mk (Below.trod kr9 kr9 (of_decide_eq_true kr9) h6 hb (vah h6)) trodAll_mk0)))))),rfl,hb.frame _,fun h=>by cases h⟩
theorem reads(os:Os){H:Type}(enc:TypeId × Value->H):∃ places,DataW.whole enc Tryz.prog ((jaE os).forCall (fun _ _=>0) ⟨#[],#[.agg #[.string ⟨#[]⟩,.string ⟨#[]⟩,.slice none 0 0,.string ⟨#[]⟩,.string ⟨#[]⟩],.agg #[.string ⟨#[]⟩,.string ⟨#[]⟩,.slice none 0 0,.string ⟨#[]⟩,.string ⟨#[]⟩],.agg #[.int .i64 0,.int .i64 0,.int .i64 0,.int .i64 0,.int .i64 0,.int .i64 0,.int .i64 0,.int .i64 0],.agg #[.int .i64 0,.int .i64 0,.int .i64 0,.int .i64 0,.int .i64 0,.int .i64 0,.int .i64 0,.int .i64 0],.agg #[.string ⟨#[]⟩,.string ⟨#[]⟩],.slice none 0 0,.agg #[.int .i64 0,.int .i64 0,.int .i64 0,.int .i64 0,.int .i64 0,.int .i64 0]],[]⟩).memory Tryz.f3.params.toList Rows.affineMatchesReferenceSpec.vars false (#[.agg #[.string ⟨#[]⟩,.string ⟨#[]⟩,.slice none 0 0,.string ⟨#[]⟩,.string ⟨#[]⟩],.agg #[.string ⟨#[]⟩,.string ⟨#[]⟩,.slice none 0 0,.string ⟨#[]⟩,.string ⟨#[]⟩],.agg #[.int .i64 0,.int .i64 0,.int .i64 0,.int .i64 0,.int .i64 0,.int .i64 0,.int .i64 0,.int .i64 0],.agg #[.int .i64 0,.int .i64 0,.int .i64 0,.int .i64 0,.int .i64 0,.int .i64 0,.int .i64 0,.int .i64 0],.agg #[.string ⟨#[]⟩,.string ⟨#[]⟩],.slice none 0 0,.agg #[.int .i64 0,.int .i64 0,.int .i64 0,.int .i64 0,.int .i64 0,.int .i64 0]]:Array Value).toList 8=some ([.agg [.agg [.lit (.string []),.lit (.string [])],.nil,.agg [.lit (.string []),.lit (.string [])]],.agg [.agg [.lit (.string []),.lit (.string [])],.nil,.agg [.lit (.string []),.lit (.string [])]],.agg [.lit (.int .i64 0),.lit (.int .i64 0),.agg [.lit (.int .i64 0),.lit (.int .i64 0),.lit (.int .i64 0),.lit (.int .i64 0),.lit (.int .i64 0),.lit (.int .i64 0)]],.agg [.lit (.int .i64 0),.lit (.int .i64 0),.agg [.lit (.int .i64 0),.lit (.int .i64 0),.lit (.int .i64 0),.lit (.int .i64 0),.lit (.int .i64 0),.lit (.int .i64 0)]],.agg [.lit (.string []),.lit (.string [])],.nil,.agg [.lit (.int .i64 0),.lit (.int .i64 0),.lit (.int .i64 0),.lit (.int .i64 0),.lit (.int .i64 0),.lit (.int .i64 0)]],[],places) :=
 ⟨[],by kernel_rfl⟩
theorem lifted(os:Os)(started:os.Started)(H:Type)(enc:TypeId × Value->H)(F:Stop.Interp) :
  ReturnsInHanded {} Tryz.checked os 3 .any ((OpenSpec.ofChange Rows.affineMatchesReferenceSpec).preRow enc Tryz.prog Tryz.f3 Rows.affineMatchesReferenceRow.domain false Rows.affineMatchesReferenceRow.laid) (((OpenSpec.ofChange Rows.affineMatchesReferenceSpec).at F).post enc Tryz.prog Tryz.f3 false true false false):=by
 obtain⟨places,hx⟩:=reads os enc;refine returnsInHanded_of_row (C:=Tryz.checked) (s:=OpenSpec.ofChange Rows.affineMatchesReferenceSpec) zcT started kr9 Tryz.func3
  (witness_row_at (enc:=enc) (C:=Tryz.checked) false (jaE os) #[.agg #[.string ⟨#[]⟩,.string ⟨#[]⟩,.slice none 0 0,.string ⟨#[]⟩,.string ⟨#[]⟩],.agg #[.string ⟨#[]⟩,.string ⟨#[]⟩,.slice none 0 0,.string ⟨#[]⟩,.string ⟨#[]⟩],.agg #[.int .i64 0,.int .i64 0,.int .i64 0,.int .i64 0,.int .i64 0,.int .i64 0,.int .i64 0,.int .i64 0],.agg #[.int .i64 0,.int .i64 0,.int .i64 0,.int .i64 0,.int .i64 0,.int .i64 0,.int .i64 0,.int .i64 0],.agg #[.string ⟨#[]⟩,.string ⟨#[]⟩],.slice none 0 0,.agg #[.int .i64 0,.int .i64 0,.int .i64 0,.int .i64 0,.int .i64 0,.int .i64 0]] rfl kr9 kr9 kr9
   (OpenSpec.preRow_of_cond 8 hx kr9 (fun k hk=>by cases hk) kr9 (vbX os _))) ?_
 intro W base args ds gs before hval hW _ _ _ hL _ _;exact zbr H enc W base args ds gs before hval hW hL
theorem kci:(Rows.affineMatchesReferenceRow.inPlace==Tryz.prog.inPlace 3)=true:=by kernel_rfl
theorem vbg:(Rows.affineMatchesReferenceRow.unfollowed==Tryz.prog.unfollowed 3)=true:=by kernel_rfl
theorem jbU:(Rows.affineMatchesReferenceRow.recurses==Tryz.prog.recurses 3)=true:=by kernel_rfl
theorem kcR:(Rows.affineMatchesReferenceRow.named==Tryz.prog.varsNamed 3)=true:=by kernel_rfl
theorem yci:laidOutB Tryz.prog=true:=by kernel_rfl
theorem zbC:mapsRowed Tryz.prog=true:=by kernel_rfl
theorem jcR:Tryz.prog.stopsHeard=true:=by kernel_rfl
theorem qbU:Tryz.prog.mayEnter=true:=by kernel_rfl
theorem ycB:(Rows.affineMatchesReferenceRow.lifted==Tryz.prog.liftsFinal)=true:=by kernel_rfl
theorem vc4:(Tryz.prog.make==some Rows.affineMatchesReferenceRow.make)=true:=by kernel_rfl
theorem jcP:joinedFacts Tryz.prog 3 Tryz.f3 (OpenSpec.ofChange Rows.affineMatchesReferenceSpec).bare Rows.affineMatchesReferenceRow=true:=by
 unfold joinedFacts;rw[kci,vbg,jbU,kcR,yci,zbC,jcR,qbU,ycB,vc4];kernel_rfl
theorem said:Rows.AffineMatchesReferenceSaid :=
 OpenClaim.holds_of_cond 3 Tryz.f3 rfl rfl rfl rfl rfl rfl rfl ⟨rfl,rfl,rfl,rfl,rfl⟩ rfl rfl rfl rfl rfl kr9 Tryz.func3 jcP
  (of_decide_eq_true kr9) (by unfold Func.isWrapper;first|(rw[if_pos (by decide +kernel)];kernel_rfl)|(rw[if_neg (by decide +kernel)];exact⟨rfl,rfl⟩))
  (fun os started H enc _ F=>by rw[OpenClaim.pre_eq_preRow];exact lifted os started H enc F)
theorem plain(f:FuncId)(fn:Func)(hf:Tryz.pinned.checked.prog.funcNamed "yardstick/yardsticklaw08.AffineMatchesReference" = some f)(hfn:Tryz.pinned.checked.prog.funcs[f]? = some fn) :
  true=Tryz.pinned.checked.prog.looks []/\∀(j:Nat) t,fn.params[j]? = some t->Tryz.pinned.checked.prog.wantsStandIn t=false:=by
 obtain rfl:f=3:=Di ((show Tryz.prog.funcNamed "yardstick/yardsticklaw08.AffineMatchesReference" = some 3 by kernel_rfl).symm.trans hf) |>.symm;obtain rfl:fn=Tryz.f3:=(Di (Tryz.func3.symm.trans hfn)).symm;refine⟨by kernel_rfl,fun j t ht => ?_⟩;rw[Tryz.params3]at ht;have hm:t∈[26,26,29,29,23,24,27]:=by simpa using Array.mem_of_getElem? ht
 have hall:([26,26,29,29,23,24,27].all fun u => !Tryz.prog.wantsStandIn u)=true:=by kernel_rfl
 exact(show Tryz.prog.wantsStandIn t=false by simpa using Be.1 hall t hm)
end Go.Proofs.YtdiecekagiledaaGreatDoor.affineMatchesReference
