/- The reference implementation of forms: Range; whether or not something is. -/
import Derived.Test.YtdiecekagiledaaGreatDoorVTail6
set_option linter.unusedSimpArgs false
set_option linter.unusedVariables false
set_option maxRecDepth 100000
set_option maxHeartbeats 16000000
namespace Go.Proofs.YtdiecekagiledaaGreatDoor
open Go Go.RowKit Go.Lib Go.Shelf Go.Proofs.Tryz
attribute [local go_sem] yg
def IvC(c:Prop)(a:Iv)(w:World)(e:Ending)(w':World):Prop:=∃ Y z,((c/\Y=a.riv/\z=0)\/(¬ c/\Y=kW/\z=80))/\IvX Y z w e w'
theorem ybm{c r:Rat}{x:Option Rat}{P:Prop}{Y:RIv}{z:Int}(dc:QDig 200 c)(hr:(P->x=some r)/\(¬ P->x=none))(h:((((false||x.isNone)||(jap (some c) x).isNone)||(yv (some c) x).isNone)=true/\Y=kW/\z=80)\/((((false||x.isNone)||(jap (some c) x).isNone)||(yv (some c) x).isNone)=false/\Y=⟨o1 (jap (some c) x),o2 (jap (some c) x),o1 (yv (some c) x),o2 (yv (some c) x)⟩/\z=0)) :
  ((P/\SF c r/\AF c r)/\Y=(⟨c-r,c+r⟩:Iv).riv/\z=0)\/(¬ (P/\SF c r/\AF c r)/\Y=kW/\z=80):=by
 by_cases hP:P
 ·rw[hr.1 hP]at h;by_cases hs:SF c r
  ·by_cases ha:AF c r
   ·rw[qaI hs,zA ha]at h;rcases h with⟨h,_⟩|⟨_,h1,h2⟩
    ·simp at h
    ·exact .inl ⟨⟨hP,hs,ha⟩,h1,h2⟩
   ·rw[qT ha]at h;rcases h with⟨_,h⟩|⟨h,_⟩
    ·exact .inr ⟨fun k=>ha k.2.2,h⟩
    ·simp at h
  ·rw[kbx hs]at h;rcases h with⟨_,h⟩|⟨h,_⟩
   ·exact .inr ⟨fun k=>hs k.2.1,h⟩
   ·simp at h
 ·rw[hr.2 hP]at h;rcases h with⟨_,h⟩|⟨h,_⟩
  ·exact .inr ⟨fun k=>hP k.1,h⟩
  ·simp at h
theorem zbm{x:RFm}(p:En)(c:Nat)(w:World)(V:∀ W,Aa w W->Calls prog 18 #[RV x p c] W (qa false W)):Calls prog 16 #[RV x p c] w (IvX kW 80 w):=by
 have hB:=Ab w;unfold qa at V;unfold RV IvX at *;go_enter func16,ntmps16;go_wp2_with fail;have d0_o:w.heap.size<=w.heap.size+1:=by have:=hB.size;omega
 have sB:=hB.size;refine za (fun X=>Aa w X/\Row X w.heap.size (.cells #[.string x.c1,.string x.c2,.slice p x.l.length c,.string x.r1,.string x.r2] 26)/\Row X (w.heap.size+1) oI0) ⟨BW,RW8,RW8⟩ ?_;clear hB sB;rintro V1⟨hB,rf,ro⟩;have sf:=RF5 rf;have so:=kn ro;refine(V _ hB).mono ?_;rintro e W2⟨rfl,h1⟩;have stp:=St2 hB h1 rf ro;clear hB h1 rf sf ro so;obtain⟨hB,rf,ro⟩:=stp;have sf:=RF5 rf;have so:=kn ro;go_wp2_with fail;have sB:=hB.size;refine vc (kq1 hB ro) ⟨BW,RW8⟩ ?_;unfold kq1;clear rf sf ro so hB sB;rintro V3⟨hB,ro⟩;have so:=kn ro;refine bodyPost_ret (v:=.tuple #[.agg #[.string ⟨#[]⟩,.string ⟨#[]⟩,.string ⟨#[]⟩,.string ⟨#[]⟩],.int .i64 80]) ?res rfl ⟨rfl,hB⟩
 case res=>simp[results,results16,go_sem,so]
theorem ybv{f:Frm}(ho:f.Ok)(dg:FDig 200 f)(p:En)(c:Nat)(w:World)(hp:TAt 34 w p f.t):Calls prog 16 #[FV f p c] w (IvC (RangeF f) (yh f) w):=by
 have hB:=Ab w;have HP:=hid hp;have MV:=fun W (h:TAt 34 W p f.t)=>jaH ho dg p c W h
 have MR:=fun bc W (rk:Row W bc (.cells #[.bool false] 77)) (h:TAt 34 W p f.t)=>kco bc false dg (Bb ho.few dd) (S f.c.num) (S (f.c.den:Int)) p c W rk h
 have MA:=fun bc W (rk:Row W bc (.cells #[.bool (false||(yU f).isNone)] 77))=>ja8 (b:=yU f) bc (false||(yU f).isNone) (Cc dg.c) (vaA _ _) W rk
 have HC:=hid fun Y z=>ybm (c:=f.c) (r:=rad f) (x:=yU f) (P:=RadF f) (Y:=Y) (z:=z) dg.c ⟨kaH,ka8 dg⟩
 have HRF:Hid (RangeF f↔RadF f/\SF f.c (rad f)/\AF f.c (rad f)):=hid ⟨fun h=>⟨h.rad,h.lo,h.hi⟩,fun h=>⟨h.1,h.2.1,h.2.2⟩⟩;unfold CalcR at MR;unfold vaO at MA;unfold qa FV at MV;unfold FV;generalize yU f=r at *;clear hp ho dg;go_enter func16,ntmps16;go_wp2_with fail;have d0_o:w.heap.size<=w.heap.size+1:=by have:=hB.size;omega
 have sB:=hB.size;refine za (fun X=>Aa w X/\Row X w.heap.size (oF f.c f.r p f.t.length c)/\Row X (w.heap.size+1) oI0) ⟨BW,RW8,RW8⟩ ?_;clear hB sB;rintro V1⟨hB,rf,ro⟩;have sf:=RF5 rf;have so:=kn ro;refine(MV _ (Ai HP.out hB)).mono ?_;rintro e W2⟨rfl,h1⟩;have stp:=St2 hB h1 rf ro;clear hB h1 rf sf ro so;obtain⟨hB,rf,ro⟩:=stp;have sf:=RF5 rf;have so:=kn ro;go_upto_region 5 with fail;have df_k:w.heap.size<W2.heap.size:=oo
 have do_k:w.heap.size+1<W2.heap.size:=oo
 have d0_k:w.heap.size<=W2.heap.size:=by have:=hB.size;omega
 have sB:=hB.size;refine zi (kp2 hB rf ro fun X=>Row X W2.heap.size (.cells #[.bool false] 77)) ⟨BW,RW8,RW8,RW8⟩ ?_;unfold kp2;clear rf sf ro so hB sB;rintro V3⟨hB,rf,ro,rk⟩;have sf:=RF5 rf;have so:=kn ro;have sk:=jz rk;go_wp2_with fail;clear sf so sk;have KK5:∀ X,Row X (w.heap.size) (oF f.c f.r p f.t.length c)->(X.cell? ⟨w.heap.size,0,none⟩=some (.string (S f.c.num))/\X.cell? ⟨w.heap.size,1,none⟩=some (.string (S (f.c.den:Int)))/\X.cell? ⟨w.heap.size,2,none⟩=some (.slice p f.t.length c)/\X.cell? ⟨w.heap.size,3,none⟩=some (.string (S f.r.num))/\X.cell? ⟨w.heap.size,4,none⟩=some (.string (S (f.r.den:Int)))):=fun X hf=>⟨Af hf 0 rfl,Af hf 1 rfl,Af hf 2 rfl,Af hf 3 rfl,Af hf 4 rfl⟩
 go_region_held3 (fun X=>X.cell? ⟨w.heap.size,0,none⟩=some (.string (S f.c.num))/\X.cell? ⟨w.heap.size,1,none⟩=some (.string (S (f.c.den:Int)))/\X.cell? ⟨w.heap.size,2,none⟩=some (.slice p f.t.length c)/\X.cell? ⟨w.heap.size,3,none⟩=some (.string (S f.r.num))/\X.cell? ⟨w.heap.size,4,none⟩=some (.string (S (f.r.den:Int)))) (first|exact KK5 _ RW8) (first
   | (go_at_call 43;refine(MR _ _ (by first|exact rk|exact AX rk) (by have h9:=Ai HP.out hB;exact h9)).mono ?_;rintro e W⟨rfl,rk9,hg⟩;(try replace hg:=jh hg);replace hB:=zu hB hg oo;replace rf:=Aw rf hg oo;replace ro:=Aw ro hg oo;replace rk:=rk9)
   | (go_at_call 42;refine(MA _ _ (by first|exact rk|exact AX rk)).mono ?_;rintro e W⟨Y,z,hz,rfl,hg⟩;(try replace hg:=jh hg);replace hB:=zu hB hg oo;replace rf:=Aw rf hg oo;replace ro:=Aw ro hg oo;clear rk;have so:=kn ro))
 clear KK5 so;have sf:=RF5 rf;have so:=kn ro;go_wp2_with fail;have sB:=hB.size;refine vc (fun X=>Aa w X/\Row X (w.heap.size+1) (.cells #[.string Y.l1,.string Y.l2,.string Y.h1,.string Y.h2] 44)) ⟨BW,RW8⟩ ?_;clear rf sf ro so hB sB;rintro V4⟨hB,ro⟩;have so:=kn ro;refine bodyPost_ret (v:=.tuple #[.agg #[.string Y.l1,.string Y.l2,.string Y.h1,.string Y.h2],.int .i64 z]) ?res rfl ⟨Y,z,by rw[HRF.out];exact HC.out Y z hz,rfl,hB⟩
 case res=>simp[results,results16,go_sem,so]
end Go.Proofs.YtdiecekagiledaaGreatDoor
namespace Go.Proofs.YtdiecekagiledaaGreatDoor
open Go Go.RowKit Go.Lib Go.Shelf Go.Proofs.Tryz
theorem jaj(F:FuncId)(caps:Array Value)(s n:Nat)(a0 a:Addr)(w:World)(he:EnvA a0 a w)
  (hv:∀ W,Aa w W->Calls prog 96 #[.slice (some ⟨s,0,none⟩) n n,.func (.func 97) #[] #[]] W (qa true W)) :
  Calls prog 38 #[.func (.func F) #[] caps,.slice (some ⟨s,0,none⟩) n n] w (ycc w):=by
 have hmf:∀(fn:Fn) (first cap:Array Value) (w:World),(Instr.makeFunc fn first cap).run prog w=.ok (.func fn first cap) w:=fun _ _ _ _=>rfl
 have hB:=Ab w;go_enter_defers func38,ntmps38;go_wp2_with fail;refine za (fun X=>Aa w X/\Row X w.heap.size oI0/\Row X (w.heap.size+1) (.cells #[.int .i64 0] 38)) ⟨(by repeat(first|(with_reducible exact hB)|(with_reducible refine Below.drew ?_)|(with_reducible refine Below.alloc ?_ Ek _)|(with_reducible refine Below.setCell ?_ Ek _))),(by repeat(first|(with_reducible exact jg Ek)|(with_reducible refine AX ?_)|(with_reducible refine AN ?_ _))),(by repeat(first|(with_reducible exact jg Ek)|(with_reducible refine AX ?_)|(with_reducible refine AN ?_ _)))⟩ ?_;clear hB;rintro W1⟨hB,rp,rq⟩;refine(hv _ hB).mono ?_;rintro e W2⟨rfl,h1⟩;replace hB:=Em hB h1;replace rp:=Ae rp h1;replace rq:=Ae rq h1;clear h1;go_wp2_with fail;refine(vz _ (he.below hB)).mono ?_;rintro e W4⟨rfl,h1⟩;replace hB:=Em hB h1;replace rp:=Ae rp h1;replace rq:=Ae rq h1;refine leaves_cons (f:=94) (args:=#[.pointer (some ⟨w.heap.size,0,none⟩),.pointer (some ⟨w.heap.size+1,0,none⟩)]) (by simp) (by simp[go_sem]) ?_
 refine(zbQ _ _ a0 a [] _ _ _ _ _ _ oo rp rq (he.below hB)).mono ?_;rintro e u' w''⟨rfl,rfl,rp',rq',hb⟩;replace hB:=hB.trans (hb w.heap.size oo oo);obtain⟨tp,dp0,dp1,dp2,dp3,_gp0,_gp1,_gp2,_gp3⟩:=AM rp';obtain⟨tq,dq,_gq⟩:=Bi rq';simp only[Leaves,settle,DI];exact⟨.tuple #[.agg #[.string ⟨#[]⟩,.string ⟨#[]⟩,.string ⟨#[]⟩,.string ⟨#[]⟩],.int .i64 80],by simp[results,results38,go_sem,dp0,dp1,dp2,dp3,dq],rfl,hB⟩
theorem kaP(F:FuncId)(caps:Array Value)(s n:Nat)(a0 a:Addr)(w:World)(he:EnvA a0 a w)
  (hv:∀ W,Aa w W->Calls prog 96 #[.slice (some ⟨s,0,none⟩) n n,.func (.func 117) #[] #[]] W (qa true W)) :
  Calls prog 66 #[.func (.func F) #[] caps,.slice (some ⟨s,0,none⟩) n n] w (qcM w):=by
 have hmf:∀(fn:Fn) (first cap:Array Value) (w:World),(Instr.makeFunc fn first cap).run prog w=.ok (.func fn first cap) w:=fun _ _ _ _=>rfl
 have hB:=Ab w;go_enter_defers func66,ntmps66;go_wp2_with fail;refine za (fun X=>Aa w X/\Row X w.heap.size oF0/\Row X (w.heap.size+1) (.cells #[.int .i64 0] 38)) ⟨(by repeat(first|(with_reducible exact hB)|(with_reducible refine Below.drew ?_)|(with_reducible refine Below.alloc ?_ Ek _)|(with_reducible refine Below.setCell ?_ Ek _))),(by repeat(first|(with_reducible exact jg Ek)|(with_reducible refine AX ?_)|(with_reducible refine AN ?_ _))),(by repeat(first|(with_reducible exact jg Ek)|(with_reducible refine AX ?_)|(with_reducible refine AN ?_ _)))⟩ ?_;clear hB;rintro W1⟨hB,rp,rq⟩;refine(hv _ hB).mono ?_;rintro e W2⟨rfl,h1⟩;replace hB:=Em hB h1;replace rp:=Ae rp h1;replace rq:=Ae rq h1;clear h1;go_wp2_with fail;refine(vz _ (he.below hB)).mono ?_;rintro e W4⟨rfl,h1⟩;replace hB:=Em hB h1;replace rp:=Ae rp h1;replace rq:=Ae rq h1;refine leaves_cons (f:=116) (args:=#[.pointer (some ⟨w.heap.size,0,none⟩),.pointer (some ⟨w.heap.size+1,0,none⟩)]) (by simp) (by simp[go_sem]) ?_
 refine(zbO _ _ a0 a [] _ _ _ _ _ _ _ oo rp rq (he.below hB)).mono ?_;rintro e u' w''⟨rfl,rfl,rp',rq',hb⟩;replace hB:=hB.trans (hb w.heap.size oo oo);obtain⟨tp,dp0,dp1,dp2,dp3,dp4,_gp0,_gp1,_gp2,_gp3,_gp4⟩:=Row.cells5 rp';obtain⟨tq,dq,_gq⟩:=Bi rq';simp only[Leaves,settle,DI];exact⟨.tuple #[.agg #[.string ⟨#[]⟩,.string ⟨#[]⟩,.slice none 0 0,.string ⟨#[]⟩,.string ⟨#[]⟩],.int .i64 80],by simp[results,results66,go_sem,dp0,dp1,dp2,dp3,dp4,dq],rfl,hB⟩
end Go.Proofs.YtdiecekagiledaaGreatDoor
namespace Go.Proofs.YtdiecekagiledaaGreatDoor
open Go Go.RowKit Go.Lib Go.Shelf Go.Proofs.Tryz
attribute [local go_sem] yg
theorem kct(b1 b2 b3 b4:ByteArray)(pb:En)(mb cb:Nat)(w:World)(nv:∀ W,Aa w W->Calls prog 17 #[.agg #[.string b1,.string b2,.slice pb mb cb,.string b3,.string b4]] W (qa false W)):Calls prog 97 #[.agg #[.string b1,.string b2,.slice pb mb cb,.string b3,.string b4]] w (qa true w):=by
 have hB:=Ab w;unfold qa at nv;unfold qa;go_enter func97,ntmps97;go_wp2_with fail;have sB:=hB.size;refine za (fun X=>Aa w X) BW ?_;clear hB sB;rintro V1 hB;refine(nv _ hB).mono ?_;rintro e W2⟨rfl,h1⟩;have stp:=St0 hB h1;clear hB h1;have hB:=stp;clear stp;go_wp2;go_ret;exact⟨rfl,hB⟩
theorem jbV(G:FuncId)(eg:∀ args w,(callFunc G args).run prog w=.ok (.enter G args) w)(s:Nat)(x1 x2 x3 x4:ByteArray)(px:En)(mx cx:Nat)(w:World)(r0:Row w s (.cells #[.string x1,.string x2,.slice px mx cx,.string x3,.string x4] 26))(hx:∀ W,Aa w W->Calls prog G #[.agg #[.string x1,.string x2,.slice px mx cx,.string x3,.string x4]] W (qa true W)) :
  Calls prog 147 #[.slice (some ⟨s,0,none⟩) 1 1,.func (.func G) #[] #[]] w fun e w'=>e=.returned (.int .i64 0)/\Aa w w':=by
 go_enter func147,ntmps147;go_wp2;go_loopw[8] (fun iv wr=>∃(k:Nat),k<=0/\iv=.int .i64 (k:Int)/\Row wr s (.cells #[.string x1,.string x2,.slice px mx cx,.string x3,.string x4] 26)/\Aa w wr) (fun iv _=>1-(RowKit.intOf iv).toNat)
 case atStart=>exact⟨0,oo,rfl,r0,Au _ _⟩
 case round =>
  obtain⟨k,hk,rfl,hr,hB'⟩:=hrel;have k0:=Af hr 0 rfl;have k1:=Af hr 1 rfl;have k2:=Af hr 2 rfl;have k3:=Af hr 3 rfl;have k4:=Af hr 4 rfl;obtain rfl:k=0:=oo
  ·go_wp2_with (go_at_fn G;refine(hx _ hB').mono ?_;rintro e W1⟨rfl,h1⟩);go_ret;exact⟨rfl,hB'.trans (h1.mono hB'.size)⟩
theorem kaB(G:FuncId)(eg:∀ args w,(callFunc G args).run prog w=.ok (.enter G args) w)(s:Nat)(x1 x2 x3 x4:ByteArray)(px:En)(mx cx:Nat)(w:World)(r0:Row w s (.cells #[.string x1,.string x2,.slice px mx cx,.string x3,.string x4] 26))(hx:∀ W,Aa w W->Calls prog G #[.agg #[.string x1,.string x2,.slice px mx cx,.string x3,.string x4]] W (qa true W)) :
  Calls prog 96 #[.slice (some ⟨s,0,none⟩) 1 1,.func (.func G) #[] #[]] w (qa true w):=by
 have H:=jbV G eg s x1 x2 x3 x4 px mx cx w r0 hx;go_enter func96,ntmps96;go_wp2_with fail;refine H.mono ?_;rintro e W⟨rfl,h1⟩;go_wp2;go_ret;exact⟨rfl,h1⟩
theorem ybV(G:FuncId)(eg:∀ args w,(callFunc G args).run prog w=.ok (.enter G args) w)(s:Nat)(x1 x2 x3 x4:ByteArray)(px:En)(mx cx:Nat)(y1 y2 y3 y4:ByteArray)(py:En)(my cy:Nat)(w:World)(r0:Row w s (.cells #[.string x1,.string x2,.slice px mx cx,.string x3,.string x4,.string y1,.string y2,.slice py my cy,.string y3,.string y4] 26))(hx:∀ W,Aa w W->Calls prog G #[.agg #[.string x1,.string x2,.slice px mx cx,.string x3,.string x4]] W (qa false W))(hy:∀ W,Aa w W->Calls prog G #[.agg #[.string y1,.string y2,.slice py my cy,.string y3,.string y4]] W (qa true W)) :
  Calls prog 147 #[.slice (some ⟨s,0,none⟩) 2 2,.func (.func G) #[] #[]] w fun e w'=>e=.returned (.int .i64 1)/\Aa w w':=by
 go_enter func147,ntmps147;go_wp2;go_loopw[8] (fun iv wr=>∃(k:Nat),k<=1/\iv=.int .i64 (k:Int)/\Row wr s (.cells #[.string x1,.string x2,.slice px mx cx,.string x3,.string x4,.string y1,.string y2,.slice py my cy,.string y3,.string y4] 26)/\Aa w wr) (fun iv _=>2-(RowKit.intOf iv).toNat)
 case atStart=>exact⟨0,oo,rfl,r0,Au _ _⟩
 case round =>
  obtain⟨k,hk,rfl,hr,hB'⟩:=hrel;have k0:=Af hr 0 rfl;have k1:=Af hr 1 rfl;have k2:=Af hr 2 rfl;have k3:=Af hr 3 rfl;have k4:=Af hr 4 rfl;have k5:=Af hr 5 rfl;have k6:=Af hr 6 rfl;have k7:=Af hr 7 rfl;have k8:=Af hr 8 rfl;have k9:=Af hr 9 rfl;rcases(show k=0\/k=1 by omega)with rfl|rfl
  ·go_wp2_with (go_at_fn G;refine(hx _ hB').mono ?_;rintro e W1⟨rfl,h1⟩);exact⟨⟨1,oo,rfl,Ae hr h1,hB'.trans (h1.mono hB'.size)⟩,by simp[RowKit.intOf]⟩
  ·go_wp2_with (go_at_fn G;refine(hy _ hB').mono ?_;rintro e W1⟨rfl,h1⟩);go_ret;exact⟨rfl,hB'.trans (h1.mono hB'.size)⟩
theorem zbf(G:FuncId)(eg:∀ args w,(callFunc G args).run prog w=.ok (.enter G args) w)(s:Nat)(x1 x2 x3 x4:ByteArray)(px:En)(mx cx:Nat)(y1 y2 y3 y4:ByteArray)(py:En)(my cy:Nat)(w:World)(r0:Row w s (.cells #[.string x1,.string x2,.slice px mx cx,.string x3,.string x4,.string y1,.string y2,.slice py my cy,.string y3,.string y4] 26))(hx:∀ W,Aa w W->Calls prog G #[.agg #[.string x1,.string x2,.slice px mx cx,.string x3,.string x4]] W (qa false W))(hy:∀ W,Aa w W->Calls prog G #[.agg #[.string y1,.string y2,.slice py my cy,.string y3,.string y4]] W (qa true W)) :
  Calls prog 96 #[.slice (some ⟨s,0,none⟩) 2 2,.func (.func G) #[] #[]] w (qa true w):=by
 have H:=ybV G eg s x1 x2 x3 x4 px mx cx y1 y2 y3 y4 py my cy w r0 hx hy;go_enter func96,ntmps96;go_wp2_with fail;refine H.mono ?_;rintro e W⟨rfl,h1⟩;go_wp2;go_ret;exact⟨rfl,h1⟩
theorem kbV(G:FuncId)(eg:∀ args w,(callFunc G args).run prog w=.ok (.enter G args) w)(s:Nat)(x1 x2 x3 x4:ByteArray)(px:En)(mx cx:Nat)(y1 y2 y3 y4:ByteArray)(py:En)(my cy:Nat)(w:World)(r0:Row w s (.cells #[.string x1,.string x2,.slice px mx cx,.string x3,.string x4,.string y1,.string y2,.slice py my cy,.string y3,.string y4] 26))(hx:∀ W,Aa w W->Calls prog G #[.agg #[.string x1,.string x2,.slice px mx cx,.string x3,.string x4]] W (qa true W)) :
  Calls prog 147 #[.slice (some ⟨s,0,none⟩) 2 2,.func (.func G) #[] #[]] w fun e w'=>e=.returned (.int .i64 0)/\Aa w w':=by
 go_enter func147,ntmps147;go_wp2;go_loopw[8] (fun iv wr=>∃(k:Nat),k<=0/\iv=.int .i64 (k:Int)/\Row wr s (.cells #[.string x1,.string x2,.slice px mx cx,.string x3,.string x4,.string y1,.string y2,.slice py my cy,.string y3,.string y4] 26)/\Aa w wr) (fun iv _=>2-(RowKit.intOf iv).toNat)
 case atStart=>exact⟨0,oo,rfl,r0,Au _ _⟩
 case round =>
  obtain⟨k,hk,rfl,hr,hB'⟩:=hrel;have k0:=Af hr 0 rfl;have k1:=Af hr 1 rfl;have k2:=Af hr 2 rfl;have k3:=Af hr 3 rfl;have k4:=Af hr 4 rfl;have k5:=Af hr 5 rfl;have k6:=Af hr 6 rfl;have k7:=Af hr 7 rfl;have k8:=Af hr 8 rfl;have k9:=Af hr 9 rfl;obtain rfl:k=0:=oo
  ·go_wp2_with (go_at_fn G;refine(hx _ hB').mono ?_;rintro e W1⟨rfl,h1⟩);go_ret;exact⟨rfl,hB'.trans (h1.mono hB'.size)⟩
theorem vbe(G:FuncId)(eg:∀ args w,(callFunc G args).run prog w=.ok (.enter G args) w)(s:Nat)(x1 x2 x3 x4:ByteArray)(px:En)(mx cx:Nat)(y1 y2 y3 y4:ByteArray)(py:En)(my cy:Nat)(w:World)(r0:Row w s (.cells #[.string x1,.string x2,.slice px mx cx,.string x3,.string x4,.string y1,.string y2,.slice py my cy,.string y3,.string y4] 26))(hx:∀ W,Aa w W->Calls prog G #[.agg #[.string x1,.string x2,.slice px mx cx,.string x3,.string x4]] W (qa true W)) :
  Calls prog 96 #[.slice (some ⟨s,0,none⟩) 2 2,.func (.func G) #[] #[]] w (qa true w):=by
 have H:=kbV G eg s x1 x2 x3 x4 px mx cx y1 y2 y3 y4 py my cy w r0 hx;go_enter func96,ntmps96;go_wp2_with fail;refine H.mono ?_;rintro e W⟨rfl,h1⟩;go_wp2;go_ret;exact⟨rfl,h1⟩
theorem ybz{a0 a1:Addr}(b1 b2 b3 b4:ByteArray)(pb:En)(mb cb:Nat)(w:World)(he:EnvA a0 a1 w)(nv:∀ W,Aa w W->Calls prog 17 #[.agg #[.string b1,.string b2,.slice pb mb cb,.string b3,.string b4]] W (qa false W)):Calls prog 15 #[.agg #[.string b1,.string b2,.slice pb mb cb,.string b3,.string b4]] w (ycc w):=by
 have hB:=Ab w;have CF:=fun s W (r:Row W s (.cells #[.string b1,.string b2,.slice pb mb cb,.string b3,.string b4] 26)) (H:Aa w W)=>kaB 97 (enters_of func97 kr9 rfl) s b1 b2 b3 b4 pb mb cb W r (fun X hX=>kct b1 b2 b3 b4 pb mb cb X (fun Y hY=>nv Y ((Em H hX).trans (hY.mono (Em H hX).size))))
 unfold ycc;clear nv;go_enter func15,ntmps15;go_wp2_with fail;have d0_o:w.heap.size<=w.heap.size+1:=by have:=hB.size;omega
 have sB:=hB.size;refine za (fun X=>Aa w X/\Row X w.heap.size (.cells #[.string b1,.string b2,.slice pb mb cb,.string b3,.string b4] 26)/\Row X (w.heap.size+1) oI0/\Row X (w.heap.size+1+1) (.cells #[.string b1,.string b2,.slice pb mb cb,.string b3,.string b4] 26)) ⟨BW,RW8,RW8,RW8⟩ ?_;clear hB sB;rintro V1⟨hB,rf,ro,rb2⟩;have sf:=RF5 rf;have so:=kn ro;have sb2:=RF5 rb2;refine(jaj 39 _ _ _ a0 a1 _ (he.below hB) (fun X h=>CF _ _ (Ae rb2 h) (Em hB h))).mono ?_;rintro e W2⟨rfl,h1⟩;have stp:=St3 hB h1 rf ro rb2;clear hB h1 rf sf ro so rb2 sb2;obtain⟨hB,rf,ro,rb2⟩:=stp;have sf:=RF5 rf;have so:=kn ro;have sb2:=RF5 rb2;go_wp2_with fail;have sB:=hB.size;refine vc (kq1 hB ro) ⟨BW,RW8⟩ ?_;unfold kq1;clear rf sf ro so rb2 sb2 hB sB;rintro V3⟨hB,ro⟩;have so:=kn ro;refine bodyPost_ret (v:=.tuple #[.agg #[.string ⟨#[]⟩,.string ⟨#[]⟩,.string ⟨#[]⟩,.string ⟨#[]⟩],.int .i64 80]) ?res rfl ⟨rfl,hB⟩
 case res=>simp[results,results15,go_sem,so]
theorem vbN(v:Bool)(b1 b2 b3 b4:ByteArray)(pb:En)(mb cb:Nat)(w:World)(nv:∀ W,Aa w W->Calls prog 17 #[.agg #[.string b1,.string b2,.slice pb mb cb,.string b3,.string b4]] W (qa v W)):Calls prog 117 #[.agg #[.string b1,.string b2,.slice pb mb cb,.string b3,.string b4]] w (qa (!v) w):=by
 have hB:=Ab w;unfold qa at nv;unfold qa;go_enter func117,ntmps117;go_wp2_with fail;have sB:=hB.size;refine za (fun X=>Aa w X) BW ?_;clear hB sB;rintro V1 hB;refine(nv _ hB).mono ?_;rintro e W2⟨rfl,h1⟩;have stp:=St0 hB h1;clear hB h1;have hB:=stp;clear stp;go_wp2;go_ret;exact⟨rfl,hB⟩
theorem zaM{w W X Y:World}(h1:Aa w W)(h2:Below W.heap.size W X)(h3:Below X.heap.size X Y):Aa w Y:=(Em h1 h2).trans (h3.mono (Em h1 h2).size)
theorem jbd{a0 a1:Addr}{p q:Rat}{x y:RFm}{v1 v2:Bool}(hv:(v1&&v2)=false)(pa:En)(ca:Nat)(pb:En)(cb:Nat)(w:World)(he:EnvA a0 a1 w)(VA1:∀ W,Aa w W->Calls prog 17 #[RV x pa ca] W (qa v1 W))(VA2:∀ W,Aa w W->Calls prog 17 #[RV y pb cb] W (qa v2 W)):Calls prog 32 #[RV x pa ca,RV y pb cb,Q p,Q q] w (FX kau 80 w):=by
 refine yaA pa ca pb cb w fun ba bb bp bq s W hB ra rb rp rq rs => ?_
 refine(kaP 84 #[.pointer (some ⟨ba,0,none⟩),.pointer (some ⟨bb,0,none⟩),.pointer (some ⟨bp,0,none⟩),.pointer (some ⟨bq,0,none⟩)] s 2 a0 a1 W (he.below hB) fun X hX => ?_).mono fun e w' h=>⟨none,0,.inl ⟨rfl,.inl rfl⟩,h.1,h.2⟩
 cases v1 with
 | false=>exact vbe 117 (enters_of func117 kr9 rfl) s _ _ _ _ pa _ ca _ _ _ _ pb _ cb X (Ae rs hX) fun Y hY=>vbN false _ _ _ _ pa _ ca Y fun Z hZ=>VA1 Z (zaM hB (Em hX hY) hZ)
 | true =>
  obtain rfl:v2=false:=by simpa using hv
  exact zbf 117 (enters_of func117 kr9 rfl) s _ _ _ _ pa _ ca _ _ _ _ pb _ cb X (Ae rs hX) (fun Y hY=>vbN true _ _ _ _ pa _ ca Y fun Z hZ=>VA1 Z (zaM hB (Em hX hY) hZ)) (fun Y hY=>vbN false _ _ _ _ pb _ cb Y fun Z hZ=>VA2 Z (zaM hB (Em hX hY) hZ))
theorem zbP{a0 a1:Addr}{x:RFm}(p:En)(c:Nat)(w:World)(he:EnvA a0 a1 w)(nv:∀ W,Aa w W->Calls prog 17 #[RV x p c] W (qa false W)):Calls prog 15 #[RV x p c] w (IvX kW 80 w) :=
 (ybz _ _ _ _ p _ c w he nv).mono fun e w' h=>h
theorem kcL{a0 a1:Addr}{x:RFm}(p:En)(c:Nat)(pv:En)(m cv:Nat)(w:World)(he:EnvA a0 a1 w)(nv:∀ W,Aa w W->Calls prog 17 #[RV x p c] W (qa false W)):Calls prog 21 #[RV x p c,.slice pv m cv] w (IvX kW 80 w):=by
 refine zcZ p c pv m cv w fun bv b s W hB rv rb rs => ?_
 exact(jaj 54 #[.pointer (some ⟨bv,0,none⟩),.pointer (some ⟨b,0,none⟩)] s 1 a0 a1 W (he.below hB) fun X hX=>kaB 97 (enters_of func97 kr9 rfl) s _ _ _ _ p _ c X (Ae rs hX) fun Y hY=>kct _ _ _ _ p _ c Y fun Z hZ=>nv Z (zaM hB (Em hX hY) hZ)).mono fun e w' h=>h
theorem zcO{a0 a1:Addr}(f0:Value)(pv:En)(m cv:Nat){v1 v2:Bool}(hbad:¬ (m<=64/\v1=true/\v2=false))(bv:Nat)(w:World)(rv:Row w bv (.cells #[.slice pv m cv] 24))(he:EnvA a0 a1 w)(MA:∀ W,Aa w W->Calls prog 47 #[.slice pv m cv,.func (.func 48) #[] #[]] W (qa v1 W))(MW:∀ W,Aa w W->Calls prog 49 #[.slice pv m cv,.func (.func 55) #[] #[]] W (qa v2 W)):Calls prog 54 #[.pointer (some ⟨bv,0,none⟩),f0] w (ji a1 w):=by
 have hB:=Ab w;unfold qa at MA MW;unfold ji;have sv:=RF1 rv;go_enter func54,ntmps54;by_cases h64:m<=64
 ·have hmI:(m:Int)<=64:=oo
  have hmI2:¬ (64:Int)<(m:Int):=oo
  cases v1 with
  | false =>
   go_wp2_with fail;have dv_o:bv<w.heap.size:=oo
   have d0_o:w.heap.size<=w.heap.size:=by have:=hB.size;omega
   have sB:=hB.size;refine za (kp1 hB rv fun X=>Row X w.heap.size oI0) ⟨BW,RW8,RW8⟩ ?_;unfold kp1;clear rv sv hB sB;rintro V1⟨hB,rv,ro⟩;have sv:=RF1 rv;have so:=kn ro;refine(MA _ hB).mono ?_;rintro e W2⟨rfl,h1⟩;have stp:=St2 hB h1 rv ro;clear hB h1 rv sv ro so;obtain⟨hB,rv,ro⟩:=stp;have sv:=RF1 rv;have so:=kn ro;go_wp2_with fail;refine(vz _ (he.below hB)).mono ?_;rintro e W9⟨rfl,h1⟩;exact⟨rfl,rfl,Em hB h1⟩
  | true =>
   obtain rfl:v2=true:=by cases v2 with|true=>rfl|false=>exact absurd ⟨h64,rfl,rfl⟩ hbad
   go_wp2_with fail;have dv_o:bv<w.heap.size:=oo
   have d0_o:w.heap.size<=w.heap.size:=by have:=hB.size;omega
   have sB:=hB.size;refine za (kp1 hB rv fun X=>Row X w.heap.size oI0) ⟨BW,RW8,RW8⟩ ?_;unfold kp1;clear rv sv hB sB;rintro V1⟨hB,rv,ro⟩;have sv:=RF1 rv;have so:=kn ro;refine(MA _ hB).mono ?_;rintro e W2⟨rfl,h1⟩;have stp:=St2 hB h1 rv ro;clear hB h1 rv sv ro so;obtain⟨hB,rv,ro⟩:=stp;have sv:=RF1 rv;have so:=kn ro;go_wp2_with fail;refine(MW _ hB).mono ?_;rintro e W3⟨rfl,h1⟩;have stp:=St2 hB h1 rv ro;clear hB h1 rv sv ro so;obtain⟨hB,rv,ro⟩:=stp;have sv:=RF1 rv;have so:=kn ro;go_wp2_with fail;refine(vz _ (he.below hB)).mono ?_;rintro e W9⟨rfl,h1⟩;exact⟨rfl,rfl,Em hB h1⟩
 ·have hmI:¬ (m:Int)<=64:=oo
  have hmI2:(64:Int)<(m:Int):=oo
  go_wp2_with fail;have dv_o:bv<w.heap.size:=oo
  have d0_o:w.heap.size<=w.heap.size:=by have:=hB.size;omega
  have sB:=hB.size;refine za (kp1 hB rv fun X=>Row X w.heap.size oI0) ⟨BW,RW8,RW8⟩ ?_;unfold kp1;clear rv sv hB sB;rintro V1⟨hB,rv,ro⟩;have sv:=RF1 rv;have so:=kn ro;refine(vz _ (he.below hB)).mono ?_;rintro e W9⟨rfl,h1⟩;exact⟨rfl,rfl,Em hB h1⟩
theorem yca{a0 a1:Addr}{f:Frm}(ho:f.Ok)(dg:FDig 200 f)(p:En)(c:Nat)(pv:En)(m cv:Nat){v1 v2:Bool}(hbad:¬ (m<=64/\v1=true/\v2=false))(w:World)(hp:TAt 34 w p f.t)(he:EnvA a0 a1 w)(MA:∀ W,Aa w W->Calls prog 47 #[.slice pv m cv,.func (.func 48) #[] #[]] W (qa v1 W))(MW:∀ W,Aa w W->Calls prog 49 #[.slice pv m cv,.func (.func 55) #[] #[]] W (qa v2 W)):Calls prog 21 #[RV f.rfm p c,.slice pv m cv] w (IvX kW 80 w):=by
 have e1:=kf f.t;refine zcZ p c pv m cv w fun bv b s W hB rv rb rs => ?_
 unfold Frm.rfm at rb rs;dsimp only at rb rs;rw[e1]at rb rs;exact(kaj 54 #[.pointer (some ⟨bv,0,none⟩),.pointer (some ⟨b,0,none⟩)] s 1 a0 a1 W (he.below hB) (enters_of func54 kr9 rfl)
  (fun X h=>yR 97 (enters_of func97 kr9 rfl) s f p c X (Ae rs h) (fun Y hY=>kcy ho dg p c Y (Ai (Ai hp hB) (Em h hY)) ((he.env.below hB).below (Em h hY))))
  (fun X h=>zcO _ pv m cv hbad bv X (Ae rv h) ((he.below hB).below h) (fun Y hY=>MA Y (zaM hB h hY)) (fun Y hY=>MW Y (zaM hB h hY)))).mono fun e w' h=>h
theorem zbz{a b:ByteArray}(w:World)(V:∀ W,Aa w W->Calls prog 36 #[.agg #[.string a,.string b]] W (qa false W)):Calls prog 23 #[.agg #[.string a,.string b]] w (fun e w'=>e=.returned (.agg #[.string ⟨#[]⟩,.string ⟨#[]⟩,.slice none 0 0,.string ⟨#[]⟩,.string ⟨#[]⟩])/\Aa w w'):=by
 have hB:=Ab w;unfold qa at *;go_enter func23,ntmps23;go_wp2_with fail;have d0_v:w.heap.size<=w.heap.size+1:=by have:=hB.size;omega
 have sB:=hB.size;refine za (fun X=>Aa w X/\Row X w.heap.size (.cells #[.string a,.string b] 23)/\Row X (w.heap.size+1) oF0) ⟨BW,RW8,RW8⟩ ?_;clear hB sB;rintro V1⟨hB,rr,rv⟩;have sr:=RF2 rr;have sv:=kd rv;refine(V _ hB).mono ?_;rintro e W2⟨rfl,h1⟩;have stp:=St2 hB h1 rr rv;clear hB h1 rr sr rv sv;obtain⟨hB,rr,rv⟩:=stp;have sr:=RF2 rr;have sv:=kd rv;go_wp2_with fail;have sB:=hB.size;refine vc (kq2 hB rr rv) ⟨BW,RW8,RW8⟩ ?_;unfold kq2;clear rr sr rv sv hB sB;rintro V3⟨hB,rr,rv⟩;have sr:=RF2 rr;have sv:=kd rv;refine bodyPost_ret (v:=.agg #[.string ⟨#[]⟩,.string ⟨#[]⟩,.slice none 0 0,.string ⟨#[]⟩,.string ⟨#[]⟩]) ?res rfl ⟨rfl,hB⟩
 case res=>simp[results,results23,go_sem,sv]
theorem vbz{x:RFm}{a b:ByteArray}(pa:En)(ca:Nat)(w:World)(V:∀ W,Aa w W->Calls prog 36 #[.agg #[.string a,.string b]] W (qa false W)):Calls prog 12 #[RV x pa ca,.agg #[.string a,.string b]] w (FX kau 80 w):=by
 have hB:=Ab w;unfold qa at *;unfold FX RV;go_enter func12,ntmps12;go_wp2_with fail;have d0_o:w.heap.size<=w.heap.size+1+1:=by have:=hB.size;omega
 have sB:=hB.size;refine za (fun X=>Aa w X/\Row X w.heap.size (.cells #[.string x.c1,.string x.c2,.slice pa x.l.length ca,.string x.r1,.string x.r2] 26)/\Row X (w.heap.size+1) (.cells #[.string a,.string b] 23)/\Row X (w.heap.size+1+1) oF0) ⟨BW,RW8,RW8,RW8⟩ ?_;clear hB sB;rintro V1⟨hB,ra,rr,ro⟩;have sa:=RF5 ra;have sr:=RF2 rr;have so:=kd ro;refine(V _ hB).mono ?_;rintro e W2⟨rfl,h1⟩;have stp:=St3 hB h1 ra rr ro;clear hB h1 ra sa rr sr ro so;obtain⟨hB,ra,rr,ro⟩:=stp;have sa:=RF5 ra;have sr:=RF2 rr;have so:=kd ro;go_wp2_with fail;have sB:=hB.size;refine vc (kq3 hB ra rr ro) ⟨BW,RW8,RW8,RW8⟩ ?_;unfold kq3;clear ra sa rr sr ro so hB sB;rintro V3⟨hB,ra,rr,ro⟩;have sa:=RF5 ra;have sr:=RF2 rr;have so:=kd ro;refine bodyPost_ret (v:=.tuple #[.agg #[.string ⟨#[]⟩,.string ⟨#[]⟩,.slice none 0 0,.string ⟨#[]⟩,.string ⟨#[]⟩],.int .i64 80]) ?res rfl ⟨none,0,.inl ⟨rfl,.inl rfl⟩,rfl,hB⟩
 case res=>simp[results,results12,go_sem,so]
end Go.Proofs.YtdiecekagiledaaGreatDoor
